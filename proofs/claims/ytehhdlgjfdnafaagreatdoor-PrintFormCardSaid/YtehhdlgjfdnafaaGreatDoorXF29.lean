/- Parts of the proof. -/
import Derived.Test.YtehhdlgjfdnafaaGreatDoorXF23
namespace Go.Proofs.YtehhdlgjfdnafaaGreatDoor
open List
variable{p:Prop}
set_option maxHeartbeats 90000000
set_option maxRecDepth 100000
set_option linter.unusedVariables false
set_option linter.unusedSimpArgs false
def eT:Wd:=⟨0,[],0⟩
def Tl (ks:List aX)(r:aK):Prop:=∃t l,r=t::l/\(t=eT\/∃s∈ks,t=wW s)
variable{ks:List aX}
theorem mr{r:aK} {w:aX}(h:Tl ks r)(hw:w∉ks):ar w r=false:=by
 obtain⟨t,l,rfl,h |⟨s,hs,h⟩⟩:=h
 ·subst h;rfl
 ·subst h;cases e:ar w (wW s::l)
  ·rfl
  ·exfalso;have e:gV w (wW s)=true:=e;unfold gV wW at e;simp only[Bool.and_eq_true,beq_iff_eq] at e;exact hw (e.2▸hs)
theorem Hl:∀(ks:List (List UInt8×Int)) (r:aK),(∀x∈ks,ar x.1 r=false)->eB ks r=none
 | [],_,_=>rfl
 |(s,o)::ks,r,h=>by have h0:=h (s,o) Tad;dsimp only at h0;show(if ar s r=true then some o else eB ks r)=none;rw[if_neg (by rw[h0];decide)];exact Hl ks r λ x hx=>h x Tbe
def ahD:List aX:=[bG,fq,BV,vh,IM,dP,IP,aff,afg,afh,afi,afj,mz,La,XU]
def Kf (ks:List aX):Bool:=ks.all λ s=> !ahD.contains s
theorem sL{r:aK}(h:Tl ks r)(hk:Kf ks=true)(k:Nat):Ends k r:=by
 have no:∀w,w∈ahD->ar w r=false:=λ w hw=>mr h λ hm=>by have:=List.all_eq_true.1 hk w hm;simp only[Bool.not_eq_true',contains_eq_mem,decide_eq_false_iff_not] at this;exact this hw
 have op:∀j,(∀x∈opsL j,x.1∈ahD)->eB (opsL j) r=none:=λ j hj=>Hl _ _ λ x hx=>no x.1 (hj x hx)
 exact⟨no _ Tab,λ _=>op 5 Tab,λ _=>op 4 Tab,λ _=>⟨op 3 Tab,no _ Tab⟩,λ _=>op 1 Tab,λ _=>op 0 Tab⟩
theorem ahE (l:aK):Tl [] (eT::l):=⟨eT,l,rfl,.inl rfl⟩
theorem Kg{s:aX}(h:s∈ks)(l:aK):Tl ks (wW s::l):=⟨_,l,rfl,.inr ⟨s,h,rfl⟩⟩
theorem Tl.more{r:aK}(h:Tl ks r)(s:aX):Tl (s::ks) r:=by
 obtain⟨t,l,e,h |⟨u,hu,h⟩⟩:=h
 ·exact⟨t,l,e,.inl h⟩
 ·exact⟨t,l,e,.inr ⟨u,mem_cons_of_mem _ hu,h⟩⟩
theorem sM (l:aK)(k:Nat):Ends k (sW [44]::l):=⟨rfl,λ _=>rfl,λ _=>rfl,λ _=>⟨rfl,rfl⟩,λ _=>rfl,λ _=>rfl⟩
theorem pJ{t:Tr}(h:t.whole.isSome=true):Rd t:=Tr.read t (by
 unfold Tr.whole at h
 split at h
 ·cases h
 ·exact h)
variable{α:Type}
theorem MV{s:aX} {t:Wd}(h:gV s t=true)  {f:Bool->Ps α} {r:aK}:(may s >>= f) (t::r)=f true r:=by rw[cg];exact if_pos h
def Bp (l:List aK):aK:=match l with
 | []=> []
 | y::r=>sW [44]::dA (y::r)
theorem xy (x:aK)(l:List aK):dA (x::l)=x++Bp l:=by
 cases l with
 | nil=>rw[rB];simp[Bp]
 | cons y r=>rw[xt];rfl
variable{el:Ps α}{W:α->aK}{E:aK->Prop}
theorem Hm(hs:cU el)  (hE:∀l,E (sW [44]::l)) {r:aK}(hr:E r)(hc:ar bt r=false):∀(l acc:List α),(∀x∈l,∀r,E r->el (W x++r)=.ok (x,r))->yh el acc (Bp (l.map W)++r)=.ok (acc++l,r)
 | [],acc,_=>by rw[yi hs,cg];show(if ar bt r=true then _ else(pure acc:Ps (List α)) r)=_;rw[if_neg (by rw[hc];decide),append_nil];rfl
 | x::l,acc,Mc=>by
   have ih:=Hm hs hE hr hc l (acc++ [x]) λ y hy=>Mc y (by simp[hy])
   have e:Bp ((x::l).map W)++r=sW [44]::(W x++(Bp (l.map W)++r)):=by rw[map_cons];show sW [44]::dA (W x::l.map W)++r=_;rw[xy];simp
   have he:E (Bp (l.map W)++r):=by
    cases l with
    | nil=>exact hr
    | cons y l=>exact hE _
   rw[e,yi hs,MV rfl,if_pos rfl,ag (Mc x Tad _ he),ih];simp
theorem oV(hs:cU el)  (hE:∀l,E (sW [44]::l)) {r:aK}(hr:E r)(hc:ar bt r=false) {l:List α}(hl:l≠ [])(Mc:∀x∈l,∀r,E r->el (W x++r)=.ok (x,r)):dN el (dA (l.map W)++r)=.ok (l,r):=by
 match l,hl with
 | x::l,_=>
   have he:E (Bp (l.map W)++r):=by
    cases l with
    | nil=>exact hr
    | cons y l=>exact hE _
   rw[map_cons,xy,append_assoc,Jk,ag (Mc x Tad _ he),Hm hs hE hr hc l [x] λ y hy=>Mc y (by simp[hy])];rfl
variable{tl:aK}
theorem VQ(W:α->aK) {x:α} {l:List α} {h:Wd} (e:W x=h::tl):∃t2,dA ((x::l).map W)=h::t2:=⟨tl++Bp (l.map W),by rw[map_cons,xy,e];rfl⟩
theorem mX{t:Tr}(h:Rd t) {r:aK}(hr:Ends 0 r):eD (t.words++r)=.ok (t,r):=h.top r hr
variable{l:List Tr}
theorem Et(hl:l≠ [])(h:∀t∈l,Rd t) {r:aK}(hr:Ends 0 r)(hc:ar bt r=false):dN eD (dA (l.map Tr.words)++r)=.ok (l,r):=
 oV lG (E:=Ends 0) (λ l=>sM l 0) hr hc hl λ t ht r hr=>mX (h t ht) hr
theorem ank (s:ByteArray):(⟨s.data.toList.toArray⟩:ByteArray)=s:=by obtain⟨⟨l⟩⟩:=s;rfl
theorem eN{s:ByteArray}(h:jd s.data.toList=true)(r:aK):cC (wW s.data.toList::r)=.ok (s,r):=by rw[MO (Ep h).1,ank]
theorem rG (n:Int)(r:aK):lZ (nW n::r)=.ok (n,r):=rfl
theorem ni{s:aX} {t:Wd}(h:gV s t=true) (f:Bool->Ps α)(r:aK):(may s >>= f) (t::r)=f true r:=by rw[cg];exact if_pos h
theorem mY{s:aX} {r:aK}(h:ar s r=false) (f:Bool->Ps α):(may s >>= f) r=f false r:=by rw[cg];exact if_neg (by rw[h];decide)
theorem dO (s:aX):gV s (wW s)=true:=by unfold gV wW;simp
theorem N2{s:aX}(h:jd s=true) {w:aX}(hw:kP w=true)(r:aK):ar w (wW s::r)=false:=by
 cases e:ar w (wW s::r)
 ·rfl
 ·exfalso;have e:gV w (wW s)=true:=e;unfold gV wW at e;simp only[Bool.and_eq_true,beq_iff_eq] at e;have:=(Ep h).1;rw[e.2,hw] at this;cases this
theorem eO{s:ByteArray}(h:(dz s).isSome=true):jd s.data.toList=true:=by unfold dz at h;rw[aJ,bj,Bool.and_eq_true] at h;exact h.1
theorem VR{x:Tr×ByteArray}(h:(nZ x).isSome=true) {r:aK}(hr:Ends 0 r)(ha:ar mA r=false):nE (yM x++r)=.ok (x,r):=by
 obtain⟨t,nm⟩:=x;unfold nZ at h;rw[aJ,Bool.and_eq_true] at h;obtain⟨h1,h2⟩:=h;have rt:=pJ h1;unfold yM nE;dsimp only at h2 ⊢;by_cases e:nm.toList=[]
 ·rw[if_pos e,append_nil,ag (mX rt hr),mY ha,MM e];rfl
 ·rw[if_neg e] at h2 ⊢;rw[aJ,Bool.and_eq_true] at h2;have hn:=eO h2.2;have e2:(t.words++([wW mA]++ [wW nm.data.toList]))++r=t.words++(wW mA::wW nm.data.toList::r):=by simp
  rw[e2,ag (mX rt (sL (Kg (ks:=[mA]) Tad _) Tab 0)),ni (dO _),if_pos rfl,ag (eN hn r)];rfl
theorem Qy{x:Tr×Bool}(h:(jn x).isSome=true) {r:aK}(hr:Ends 0 r)(ha:ar mJ r=false):km (sK x++r)=.ok (x,r):=by
 obtain⟨t,d⟩:=x;unfold jn at h;rw[aJ,Bool.and_eq_true] at h;have rt:=pJ h.1;unfold sK km;cases d
 ·simp only[Bool.false_eq_true,if_false,append_nil];rw[ag (mX rt hr),mY ha];rfl
 ·simp only[if_true,append_assoc,cons_append,nil_append];rw[ag (mX rt (sL (Kg (ks:=[mJ]) Tad _) Tab 0)),ni (dO _)];rfl
variable{word:aX}
theorem MW(h:(dX word l).isSome=true):l=[]\/∃t,l=[t]/\Rd t:=by
 unfold dX at h;rw[aJ,bj,Bool.and_eq_true,decide_eq_true_eq] at h
 match l,h with
 | [],_=>exact .inl rfl
 | [t],h=>have h2:=h.2;rw[aJ,Bool.and_eq_true] at h2;exact .inr ⟨t,rfl,pJ h2.2⟩
 | _::_::_,h=>have:=h.1;simp at this
theorem qA{w:aX} (h:(dX word l).isSome=true)  {r:aK}(hr:Tl ks r)(hw:w∉ks)(hk:Kf ks=true):fU w (fV w l++r)=.ok (l,r):=by
 unfold fU;rcases MW h with rfl |⟨t,rfl,rt⟩
 ·show(may w >>= _) r=_;rw[mY (mr hr hw)];rfl
 ·show(may w >>= _) (wW w::(t.words++r))=_;rw[ni (dO _),if_pos rfl,ag (mX rt (sL hr hk 0))];rfl
theorem Ap{w:aX}   {r:aK}(hr:Tl ks r):Tl (w::ks) (fV w l++r):=by
 cases l with
 | nil=>exact hr.more w
 | cons t l=>exact⟨_,_,rfl,.inr ⟨w,by simp,rfl⟩⟩
variable{a b:aX}
theorem Sm{l:List aK}  {r:aK}(hr:Tl ks r):Tl (a::ks) (tj ([wW a]++ [wW b]) l++r):=by
 unfold tj;split
 ·exact hr.more a
 ·exact⟨_,_,rfl,.inr ⟨a,by simp,rfl⟩⟩
theorem N3{l:List Int}  {r:aK}(hr:Tl ks r):Tl (ju::ks) (xw l++r):=by
 cases l with
 | nil=>exact hr.more _
 | cons n l=>exact⟨_,_,rfl,.inr ⟨_,by simp,rfl⟩⟩
variable{lead:aX}{f:α->Option aX}
theorem Hn{l:List α}(h:(ix lead (l.map f)).isSome=true):∀x∈l,(f x).isSome=true:=λ x hx=>Ah h _ (List.mem_map.2 ⟨x,hx,rfl⟩)
theorem Qz(h:(ix lead (l.map Tr.whole)).isSome=true)  {r:aK}(hr:Tl ks r)(hw:iR∉ks)(hk:Kf ks=true)(hc:bt∉ks):pc (tj ([wW iR]++ [wW nB]) (l.map Tr.words)++r)=.ok (l,r):=by
 unfold pc tj
 match l,h with
 | [],_=>show(may iR >>= _) r=_;rw[mY (mr hr hw)];rfl
 | t::l,h=>rw[if_neg Tad];show(may iR >>= _) (wW iR::wW nB::(dA ((t::l).map Tr.words)++r))=_;rw[ni (dO _),if_pos rfl,ag (cB (dO _))];exact Et Tad (λ x hx=>pJ (Hn h x hx)) (sL hr hk 0) (mr hr hc)
theorem MX{l:List (Tr×Bool)}(h:(ix lead (l.map jn)).isSome=true)  {r:aK}(hr:Tl ks r)(hw:iT∉ks)(hk:Kf ks=true)(hc:bt∉ks)(hd:mJ∉ks):ma (tj ([wW iT]++ [wW nB]) (l.map sK)++r)=.ok (l,r):=by
 unfold ma tj
 match l,h with
 | [],_=>show(may iT >>= _) r=_;rw[mY (mr hr hw)];rfl
 | t::l,h=>rw[if_neg Tad];show(may iT >>= _) (wW iT::wW nB::(dA ((t::l).map sK)++r))=_;rw[ni (dO _),if_pos rfl,ag (cB (dO _))];exact oV nH (E:=λ r=>Ends 0 r/\ar mJ r=false) (λ l=>⟨sM l 0,rfl⟩) ⟨sL hr hk 0,mr hr hd⟩ (mr hr hc) Tad λ x hx r hr=>Qy (Hn h x hx) hr.1 hr.2
theorem QA{l:List Int}(h:(wR l).isSome=true)  {r:aK}(hr:Tl ks r)(hw:ju∉ks):qH (xw l++r)=.ok (l,r):=by
 unfold wR at h;rw[aJ,bj,Bool.and_eq_true,decide_eq_true_eq] at h;unfold qH
 match l,h with
 | [],_=>show(may ju >>= _) r=_;rw[mY (mr hr hw)];rfl
 | [n],_=>show(may ju >>= _) (wW ju::nW n::r)=_;rw[ni (dO _),if_pos rfl,ag (rG n r)];rfl
 | _::_::_,h=>have:=h.1;simp at this
theorem Eu{q:Qu}(h:(iU q).isSome=true) {r:aK}(hr:Tl [] r):dc (mq q++r)=.ok (q,r):=by
 unfold iU at h;simp only[aJ,Bool.and_eq_true] at h;obtain⟨-,hi, -, -,hn,hw,hg,hh,ho,hl⟩:=h;have hn:=eO hn;have T1:Tl [ju] (xw q.aN++r):=N3 hr;have T2:=Sm (a:=iT) (b:=nB) (l:=q.order.map sK) T1;have T3:=Ap (w:=nC) (l:=q.having) T2;have T4:=Sm (a:=iR) (b:=nB) (l:=q.group.map Tr.words) T3;have T5:=Ap (w:=dB) (l:=q.aS) T4;have e:mq q++r=wW dw::((if q.items.length=0 then [sW [42]] else dA (q.items.map yM))++(wW cD::((if q.only then [wW jD] else [])++(wW q.aP.data.toList::(fV dB q.aS++(tj ([wW iR]++ [wW nB]) (q.group.map Tr.words)++(fV nC q.having++(tj ([wW iT]++ [wW nB]) (q.order.map sK)++(xw q.aN++r))))))))):=by unfold mq Sj;simp only[append_assoc,cons_append,nil_append]
 rw[e];unfold dc;rw[ag (cB (dO _))]
 have items:∀l,qG ((if q.items.length=0 then [sW [42]] else dA (q.items.map yM))++(wW cD::l))=.ok (q.items,wW cD::l):=by
  intro l;unfold qG
  match hq:q.items,hi with
  | [],_=>show(may fq >>= _) (sW [42]::(wW cD::l))=_;rw[ni rfl];rfl
  | x::xs,hi=>
    rw[if_neg Tad] at hi ⊢;have hsome:=λ y hy=>iH _ hi (nZ y) (List.mem_map.2 ⟨y,hy,rfl⟩)
    have hx:=hsome x Tad;have rx:Rd x.1:=by unfold nZ at hx;rw[aJ,Bool.and_eq_true] at hx;exact pJ hx.1
    obtain⟨d,tl,ed,hd⟩:=rx.th;obtain⟨t2,e2⟩:=VQ yM (x:=x) (l:=xs) (h:=d) (tl:=tl++(if x.2.toList=[] then [] else [wW mA]++ [wW x.2.data.toList])) (by unfold yM;rw[ed];rfl);rw[mY (by rw[e2];exact hd),if_neg Tab];have F:Tl [cD] (wW cD::l):=Kg Tad l;exact oV mM (E:=λ r=>Ends 0 r/\ar mA r=false) (λ l=>⟨sM l 0,rfl⟩) ⟨sL F Tab 0,mr F Tab⟩ (mr F Tab) Tad λ y hy r hr=>VR (hsome y hy) hr.1 hr.2
 rw[ag (items _),ag (cB (dO _))]
 have only:∀(l:aK) {α:Type} (f:Bool->Ps α),(may jD >>= f) ((if q.only then [wW jD] else [])++(wW q.aP.data.toList::l))=f q.only (wW q.aP.data.toList::l):=by
  intro l α f;cases q.only
  ·exact mY (N2 hn Tab l) f
  ·exact ni (dO _) f _
 rw[only,ag (eN hn _),ag (qA hw T4 Tab Tab),ag (Qz hg T3 Tab Tab Tab),ag (qA hh T2 Tab Tab),ag (MX ho T1 Tab Tab Tab Tab),ag (QA hl hr Tad)];rfl
abbrev TB:=aX×Bool
def tb (x:TB):Option aX:=if x.2 then some x.1 else none
theorem ahF{q:Qu}(h:Gj q=true):q= {}:=by obtain⟨items,aP,only,aS,group,having,order,aN⟩:=q;unfold Gj at h;simp only[Bool.and_eq_true,decide_eq_true_eq,beq_iff_eq,Bool.not_eq_true'] at h;obtain⟨h1,h2,h3⟩:=h;have e1:items=[]:=List.length_eq_zero_iff.1 Taa;have e2:aS=[]:=List.length_eq_zero_iff.1 Taa;have e3:group=[]:=List.length_eq_zero_iff.1 Taa;have e4:having=[]:=List.length_eq_zero_iff.1 Taa;have e5:order=[]:=List.length_eq_zero_iff.1 Taa;have e6:aN=[]:=List.length_eq_zero_iff.1 Taa;rw[e1,e2,e3,e4,e5,e6,MM h2,h3]
structure anl (s:St) (c q j w e r u h t:Bool):Prop where
 c:c=true\/s.bg=[]/\s.time=ByteArray.empty/\s.space=ByteArray.empty/\s.parts=0
 e:e=true\/s.every=0
 q:q=true\/s.query= {}
 w:w=true\/s.what=0
 j:j=true\/s.cM=ByteArray.empty/\s.a=0/\s.b=0
 r:r=true\/s.rows=[]
 u:u=true\/s.bF=[]
 h:h=true\/s.aS=[]
 t:t=true\/s.aP=aV/\s.dx=aV
variable{s:St}
theorem eF{c q j w e r u h t:Bool}(hl:cY s c q j w e r u h t=true):anl s c q j w e r u h t:=by unfold cY at hl;simp only[Bool.and_eq_true,Bool.or_eq_true,beq_iff_eq] at hl;obtain⟨⟨⟨⟨⟨⟨⟨⟨l1,l2⟩,l3⟩,l4⟩,l5⟩,l6⟩,l7⟩,l8⟩,l9⟩:=hl;exact⟨l1.imp id λ x=>⟨List.length_eq_zero_iff.1 x.1.1.1,MM x.1.1.2,MM x.1.2,x.2⟩,l2,l3.imp id ahF,l4,l5.imp id λ x=>⟨MM x.1.1,x.1.2,x.2⟩,l6.imp id List.length_eq_zero_iff.1,l7.imp id List.length_eq_zero_iff.1,l8.imp id List.length_eq_zero_iff.1,l9.imp id λ x=>⟨Al x.1,Al x.2⟩⟩
theorem no{p:Prop}(h:false=true\/p):p:=h.resolve_left Tab
theorem ahG (l:aK):Tl [] (eT::l):=ahE l
theorem ahH{c:ByteArray×Int}(h:(Bw c).isSome=true)(r:aK):gL (Ke c++r)=.ok (c,r):=by
 obtain⟨nm,t⟩:=c;unfold Bw at h;simp only[aJ,bj,Bool.and_eq_true,decide_eq_true_eq] at h;obtain⟨hn,⟨h1,h2⟩, -⟩:=h;unfold gL Ke;show(cC >>= _) (wW nm.data.toList::wW (N0 t)::r)=_;rw[ag (eN (eO hn) _)];have:t=1\/t=2\/t=3:=by omega
 rcases this with rfl | rfl | rfl <;> rfl
theorem ahI{x:ByteArray×Tr}(h:(Bz x).isSome=true) {r:aK}(hr:Ends 0 r):vR (DR x++r)=.ok (x,r):=by
 obtain⟨nm,t⟩:=x;unfold Bz at h;simp only[aJ,Bool.and_eq_true] at h;obtain⟨hn, -,ht⟩:=h;unfold vR DR;have e:([wW nm.data.toList]++([sW [61]]++t.words))++r=wW nm.data.toList::sW [61]::(t.words++r):=by simp
 dsimp only;rw[e,ag (eN (eO hn) _),ag (cB rfl),ag (mX (pJ ht) hr)];rfl
theorem ahJ(h:(zH l).isSome=true)(r:aK):rZ (FM l++r)=.ok (l,r):=by
 unfold zH at h;simp only[aJ,Bool.and_eq_true] at h;obtain⟨-,hl, -⟩:=h;have hne:l≠ []:=by rintro rfl;cases hl
 have e:FM l++r=sW [40]::(dA (l.map Tr.words)++(sW [41]::r)):=by unfold FM;simp
 unfold rZ;rw[e,ag (cB rfl),ag (Et hne (λ t ht=>pJ (iH _ hl _ (List.mem_map.2 ⟨t,ht,rfl⟩))) (sH r 0) rfl),ag (cB rfl)];rfl
variable{v:Val}
theorem N4(h:(vS v).isSome=true)(r:aK):qV (Ao v++r)=.ok (v,r):=by
 unfold vS at h;simp only[aJ,bj,Bool.and_eq_true] at h;obtain⟨hb,hg, -⟩:=h;obtain⟨k,n,s⟩:=v;simp only[Bool.or_eq_true,Bool.and_eq_true,beq_iff_eq,decide_eq_true_eq] at hb;unfold good at hg;dsimp only at hb hg;unfold Ao qV;dsimp only;by_cases h0:k=0
 ·rw[if_pos h0] at hg ⊢;simp only[Bool.and_eq_true,beq_iff_eq,kQ] at hg;rw[h0,hg.1,MM hg.2];rfl
 ·obtain⟨h2,hn⟩:=hb.resolve_left h0;subst h2;rw[if_neg Taa,if_neg Taa,if_pos rfl] at hg;simp only[kQ,beq_iff_eq] at hg;rw[if_neg Taa,MM hg];by_cases xc:n < 0
  ·rw[if_pos xc];show(may bT >>= _) (sW [45]::nW (-n)::r)=_;rw[mY rfl,if_neg Tab];show(may dP >>= _) (sW [45]::nW (-n)::r)=_;rw[ni rfl,ag (rG _ _)];show(Except.ok ((⟨2,if true=true then - -n else -n,ByteArray.empty⟩:Val),r):Except Nat (Val×aK))=_;rw[if_pos rfl,Int.neg_neg]
  ·rw[if_neg xc];show(may bT >>= _) (nW n::r)=_;rw[mY rfl,if_neg Tab];show(may dP >>= _) (nW n::r)=_;rw[mY rfl,ag (rG _ _)];rfl
theorem Kh{l:List α}(h:(dL (l.map f)).isSome=true):l≠ []:=by rintro rfl;cases h
theorem vL{l:List α}(h:(dL (l.map f)).isSome=true):l.length<=64:=by unfold dL at h;rw[aJ,bj,Bool.and_eq_true,Bool.and_eq_true,length_map,decide_eq_true_eq,decide_eq_true_eq] at h;exact h.1.2
theorem VS (l:aK):jS [cG,dH,iM] (wW cG::l)=.ok (cG,l):=rfl
theorem N5 (l:aK):jS [cG,dH,iM] (wW dH::l)=.ok (dH,l):=rfl
theorem ack (l:aK):jS [cG,dH,iM] (wW iM::l)=.ok (iM,l):=rfl
theorem QB(hk:s.kind=1)(h:(nU s).isSome=true)(r:aK):kK ([wW cG]++([wW s.name.data.toList]++([sW [40]]++(dA (s.bg.map Ke)++([sW [41]]++ [wW lY]++([wW s.time.data.toList]++([wW cx]++([nW s.every]++(if s.space.toList=[] then [] else [wW jR]++([wW s.space.data.toList]++([wW fp]++ [nW s.parts]))))))))))++(eT::r))=.ok (s,eT::r):=by
 unfold nU at h;simp only[aJ,bj,Bool.and_eq_true] at h;obtain⟨hl, -,hn, -,hc, -,ht, -,he,hsp⟩:=h;have li:=eF hl;have e:∀X:aK,[wW cG]++([wW s.name.data.toList]++([sW [40]]++(dA (s.bg.map Ke)++([sW [41]]++ [wW lY]++([wW s.time.data.toList]++([wW cx]++([nW s.every]++X)))))))++(eT::r)=wW cG::wW s.name.data.toList::sW [40]::(dA (s.bg.map Ke)++(sW [41]::wW lY::wW s.time.data.toList::wW cx::nW s.every::(X++(eT::r)))):=by intro X;simp
 rw[e];unfold kK;rw[ag (VS _),if_pos rfl];unfold tU
 have bg:dN gL (dA (s.bg.map Ke)++(sW [41]::wW lY::wW s.time.data.toList::wW cx::nW s.every::((if s.space.toList=[] then [] else [wW jR]++([wW s.space.data.toList]++([wW fp]++ [nW s.parts])))++(eT::r))))=.ok (s.bg,_):=
  oV ow (E:=λ _=>True) (λ _=>trivial) trivial rfl (Kh hc) λ x hx r _=>ahH (iH _ hc _ (List.mem_map.2 ⟨x,hx,rfl⟩)) r
 have sp:tT ((if s.space.toList=[] then [] else [wW jR]++([wW s.space.data.toList]++([wW fp]++ [nW s.parts])))++(eT::r))=.ok ((s.space,s.parts),eT::r):=by
  unfold tT;by_cases es:s.space.toList=[]
  ·rw[if_pos es] at hsp ⊢;rw[bj,beq_iff_eq] at hsp;show(may jR >>= _) (eT::r)=_;rw[mY rfl,hsp,MM es];rfl
  ·rw[if_neg es] at hsp ⊢;simp only[aJ,Bool.and_eq_true] at hsp;show(may jR >>= _) (wW jR::wW s.space.data.toList::wW fp::nW s.parts::(eT::r))=_;rw[ni (dO _),if_pos rfl,ag (eN (eO hsp.2.1) _),ag (cB (dO _)),ag (rG _ _)];rfl
 rw[ag (eN (eO hn) _),ag (cB rfl),ag bg,ag (cB rfl),ag (cB (dO _)),ag (eN (eO ht) _),ag (cB (dO _)),ag (rG _ _),ag sp];obtain⟨kind,name,cs,time,every,space,parts,query,what,cM,a,b,rows,bF,aS,aP,dx⟩:=s;have l1:=no li.q;have l2:=no li.w;have l3:=no li.j;have l4:=no li.r;have l5:=no li.u;have l6:=no li.h;have l7:=no li.t;dsimp only at hk l1 l2 l3 l4 l5 l6 l7;obtain⟨m1,m2,m3⟩:=l3;obtain⟨m4,m5⟩:=l7;subst hk l1 l2 m1 m2 m3 l4 l5 l6 m4 m5;rfl
theorem N6(hk:s.kind=3)(h:(BA s).isSome=true)(r:aK):kK ([wW iM]++([wW s.name.data.toList]++([wW (xx s.what)]++([wW s.cM.data.toList]++((if s.what=9 then [wW cD]++([nW s.a]++([wW CR]++ [nW s.b]))else [wW fg]++ [nW s.a])++([wW cx]++ [nW s.every])))))++(eT::r))=.ok (s,eT::r):=by
 unfold BA at h;simp only[aJ,bj,Bool.and_eq_true] at h;obtain⟨hl, -,hn,hj, -,ho,hab, -,he⟩:=h;have li:=eF hl
 have hw:s.what=9\/s.what=10\/s.what=12:=by
  unfold xO at hj;by_cases e:s.what=9
  ·exact .inl e
  by_cases e2:s.what=10
  ·exact .inr (.inl e2)
  by_cases e3:s.what=12
  ·exact .inr (.inr e3)
  ·simp[e,e2,e3] at hj
 have e:∀X:aK,[wW iM]++([wW s.name.data.toList]++([wW (xx s.what)]++([wW s.cM.data.toList]++(X++([wW cx]++ [nW s.every])))))++(eT::r)=wW iM::wW s.name.data.toList::wW (xx s.what)::wW s.cM.data.toList::(X++(wW cx::nW s.every::(eT::r))):=by intro X;simp
 rw[e];unfold kK;rw[ag (ack _),if_neg Tab,if_neg Tab];unfold Fk;have any:∀l,jS [bV,bQ,gu] (wW (xx s.what)::l)=.ok (xx s.what,l):=by intro l;unfold xx;rcases hw with e | e | e <;> rw[e] <;> rfl
 have ab:tV (xx s.what) ((if s.what=9 then [wW cD]++([nW s.a]++([wW CR]++ [nW s.b]))else [wW fg]++ [nW s.a])++(wW cx::nW s.every::(eT::r)))=.ok ((s.a,s.b),wW cx::nW s.every::(eT::r)):=by
  unfold tV xx;by_cases e9:s.what=9
  ·rw[if_pos e9,if_pos rfl,if_pos e9];rfl
  ·rw[if_neg e9] at hab ⊢;rw[aJ,bj,Bool.and_eq_true,beq_iff_eq] at hab;have hk2:¬(if s.what=10 then bQ else gu)=bV:=by split <;> decide
   rw[if_neg hk2,if_neg e9,hab.1];rfl
 rw[ag (eN (eO hn) _),ag (any _),ag (eN (eO ho) _),ag ab,ag (cB (dO _)),ag (rG _ _)];have N7:(if xx s.what=bV then(9:Int)else if xx s.what=bQ then 10 else 12)=s.what:=by unfold xx;rcases hw with e | e | e <;> rw[e] <;> rfl
 show(Except.ok (({ kind:=3,name:=s.name,what:=if xx s.what=bV then 9 else if xx s.what=bQ then 10 else 12,cM:=s.cM,a:=s.a,b:=s.b,every:=s.every }:St),eT::r):Except Nat (St×aK))=_;rw[N7];obtain⟨kind,name,cs,time,every,space,parts,query,what,cM,a,b,rows,bF,aS,aP,dx⟩:=s;have l0:=no li.c;have l1:=no li.q;have l4:=no li.r;have l5:=no li.u;have l6:=no li.h;have l7:=no li.t;dsimp only at hk l0 l1 l4 l5 l6 l7;obtain⟨m0,m1,m2,m3⟩:=l0;obtain⟨m4,m5⟩:=l7;subst hk l1 m0 m1 m2 m3 l4 l5 l6 m4 m5;rfl
theorem zdV.Ka0(h:p:=by have l4:=no li.r;have l5:=no li.u;have l6:=no li.h;have l7:=no li.t;dsimp only at h2 l0 l1 l2 l3 l4 l5 l6 l7;obtain⟨m0,m1,m2,m3⟩:=l0;obtain⟨m6,m7,m8⟩:=l3;obtain⟨m4,m5⟩:=l7;subst h2 l1 l2 m0 m1 m2 m3 m6 m7 m8 l4 l5 l6 m4 m5;rfl):p:=h
theorem zdW.Ka0(h:p:=by have l4:=no li.q;have l5:=no li.u;have l6:=no li.h;have l7:=no li.t;dsimp only at h5 l0 l1 l2 l3 l4 l5 l6 l7;obtain⟨m0,m1,m2,m3⟩:=l0;obtain⟨m6,m7,m8⟩:=l3;obtain⟨m4,m5⟩:=l7;subst h5 l1 l2 m0 m1 m2 m3 m6 m7 m8 l4 l5 l6 m4 m5;rfl):p:=h
theorem zdX.Ka0(h:p:=by have l4:=no li.q;have l5:=no li.r;have l7:=no li.t;dsimp only at h6 l0 l1 l2 l3 l4 l5 l7;obtain⟨m0,m1,m2,m3⟩:=l0;obtain⟨m6,m7,m8⟩:=l3;obtain⟨m4,m5⟩:=l7;subst h6 l1 l2 m0 m1 m2 m3 m6 m7 m8 l4 l5 m4 m5;rfl):p:=h
theorem zdY.Ka0(h:p:=by have l4:=no li.q;have l5:=no li.r;have l6:=no li.u;have l7:=no li.t;dsimp only at h7 l0 l1 l2 l3 l4 l5 l6 l7;obtain⟨m0,m1,m2,m3⟩:=l0;obtain⟨m6,m7,m8⟩:=l3;obtain⟨m4,m5⟩:=l7;subst h7 l1 l2 m0 m1 m2 m3 m6 m7 m8 l4 l5 l6 m4 m5;rfl):p:=h
theorem zdZ.Ka0(h:p:=by have l4:=no li.r;have l5:=no li.u;have l6:=no li.h;have l7:=no li.t;have l8:=MM Rv;dsimp only at h8 l0 l1 l2 l3 l4 l5 l6 l7 l8;obtain⟨m0,m1,m2,m3⟩:=l0;obtain⟨m6,m7,m8⟩:=l3;obtain⟨m4,m5⟩:=l7;subst h8 l1 l2 m0 m1 m2 m3 m6 m7 m8 l4 l5 l6 m4 m5 l8;rfl):p:=h
theorem zd0.Ka0(h:p:=by have l4:=no li.q;have l5:=no li.r;have l6:=no li.u;have l7:=no li.h;dsimp only at l0 l1 l2 l3 l4 l5 l6 l7;obtain⟨m0,m1,m2,m3⟩:=l0;obtain⟨m6,m7,m8⟩:=l3;subst l1 l2 m0 m1 m2 m3 m6 m7 m8 l4 l5 l6 l7;rfl):p:=h
theorem VT(h:(ct s).isSome=true)(r:aK):bK (Es s++(eT::r))=.ok (s,eT::r):=by
 have T:Tl [] (eT::r):=ahG r;unfold ct at h;unfold Es;by_cases h1:s.kind=1
 ·rw[if_pos h1] at h ⊢;have:=QB h1 h r;exact Zf0
 rw[if_neg h1] at h ⊢;by_cases h3:s.kind=3
 ·rw[if_pos h3] at h ⊢;have:=N6 h3 h r;exact Zf0
 rw[if_neg h3] at h ⊢;by_cases h2:s.kind=2
 ·rw[if_pos h2] at h ⊢;simp only[aJ,bj,Bool.and_eq_true] at h;obtain⟨hl, -,hn, -,hq⟩:=h;have li:=eF hl;have e:([wW fA]++ [wW dH]++([wW s.name.data.toList]++([wW mA]++mq s.query)))++(eT::r)=wW fA::wW dH::wW s.name.data.toList::wW mA::(mq s.query++(eT::r)):=by simp
  rw[e];show kK (wW dH::wW s.name.data.toList::wW mA::(mq s.query++(eT::r)))=_;unfold kK;rw[ag (N5 _),if_neg Tab,if_pos rfl];unfold Gi;rw[ag (eN (eO hn) _),ag (cB (dO _)),ag (Eu hq T)];open zdV in exact ZbE
 rw[if_neg h2] at h ⊢;by_cases h4:s.kind=4
 ·rw[if_pos h4] at h ⊢;simp only[aJ,bj,Bool.and_eq_true] at h;obtain⟨⟨hd,hl⟩, -,hn⟩:=h;have li:=eF hl
  have hw:s.what=1\/s.what=2\/s.what=3:=by
   unfold oa at hd;by_cases e:s.what=1
   ·exact .inl e
   by_cases e2:s.what=2
   ·exact .inr (.inl e2)
   by_cases e3:s.what=3
   ·exact .inr (.inr e3)
   ·simp[e,e2,e3] at hd
  show AL (wW (nX s.what)::wW s.name.data.toList::(eT::r))=_;have any:∀l,jS [cG,dH,iM] (wW (nX s.what)::l)=.ok (nX s.what,l):=by intro l;unfold nX;rcases hw with e | e | e <;> rw[e] <;> rfl
  unfold AL;rw[ag (any _),ag (eN (eO hn) _)];have N7:(if nX s.what=cG then(1:Int)else if nX s.what=dH then 2 else 3)=s.what:=by unfold nX;rcases hw with e | e | e <;> rw[e] <;> rfl
  show(Except.ok (({ kind:=4,what:=if nX s.what=cG then 1 else if nX s.what=dH then 2 else 3,name:=s.name }:St),eT::r):Except Nat (St×aK))=_;rw[N7];obtain⟨kind,name,cs,time,every,space,parts,query,what,cM,a,b,rows,bF,aS,aP,dx⟩:=s;have l0:=no li.c;have l1:=no li.e;have l2:=no li.q;have l3:=no li.j;have l4:=no li.r;have l5:=no li.u;have l6:=no li.h;have l7:=no li.t;dsimp only at h4 l0 l1 l2 l3 l4 l5 l6 l7;obtain⟨m0,m1,m2,m3⟩:=l0;obtain⟨m6,m7,m8⟩:=l3;obtain⟨m4,m5⟩:=l7;subst h4 l1 l2 m0 m1 m2 m3 m6 m7 m8 l4 l5 l6 m4 m5;rfl
 rw[if_neg h4] at h ⊢;by_cases h5:s.kind=5
 ·rw[if_pos h5] at h ⊢;simp only[aJ,bj,Bool.and_eq_true] at h;obtain⟨hl, -,hn, -,hr⟩:=h;have li:=eF hl;have e:([wW iw]++ [wW fp]++([wW s.name.data.toList]++([wW jf]++dA (s.rows.map FM))))++(eT::r)=wW iw::wW fp::wW s.name.data.toList::wW jf::(dA (s.rows.map FM)++(eT::r)):=by simp
  rw[e];show pX (wW fp::wW s.name.data.toList::wW jf::(dA (s.rows.map FM)++(eT::r)))=_;unfold pX
  have rows:dN rZ (dA (s.rows.map FM)++(eT::r))=.ok (s.rows,eT::r):=
   oV zL (E:=λ _=>True) (λ _=>trivial) trivial rfl (Kh hr) λ x hx r _=>ahJ (iH _ hr _ (List.mem_map.2 ⟨x,hx,rfl⟩)) r
  rw[ag (cB (dO _)),ag (eN (eO hn) _),ag (cB (dO _)),ag rows];open zdW in exact ZbE
 rw[if_neg h5] at h ⊢;by_cases h6:s.kind=6
 ·rw[if_pos h6] at h ⊢;simp only[aJ,bj,Bool.and_eq_true] at h;obtain⟨hl, -,hn, -,hr,hb⟩:=h;have li:=eF hl;have e:([wW gJ]++([wW s.name.data.toList]++([wW sT]++(dA (s.bF.map DR)++fV dB s.aS))))++(eT::r)=wW gJ::wW s.name.data.toList::wW sT::(dA (s.bF.map DR)++(fV dB s.aS++(eT::r))):=by simp
  rw[e];show pY (wW s.name.data.toList::wW sT::(dA (s.bF.map DR)++(fV dB s.aS++(eT::r))))=_;unfold pY;have TB:=Ap (w:=dB) (l:=s.aS) T
  have bF:dN vR (dA (s.bF.map DR)++(fV dB s.aS++(eT::r)))=.ok (s.bF,fV dB s.aS++(eT::r)):=
   oV Gq (E:=λ r=>Ends 0 r) (λ l=>sM l 0) (sL TB Tab 0) (mr TB Tab) (Kh hr) λ x hx r hE=>ahI (iH _ hr _ (List.mem_map.2 ⟨x,hx,rfl⟩)) hE
  rw[ag (eN (eO hn) _),ag (cB (dO _)),ag bF,ag (qA hb T Tad Tab)];open zdX in exact ZbE
 rw[if_neg h6] at h ⊢;by_cases h7:s.kind=7
 ·rw[if_pos h7] at h ⊢;simp only[aJ,bj,Bool.and_eq_true] at h;obtain⟨hl, -,hn,hb⟩:=h;have li:=eF hl;have e:([wW gK]++ [wW cD]++([wW s.name.data.toList]++fV dB s.aS))++(eT::r)=wW gK::wW cD::wW s.name.data.toList::(fV dB s.aS++(eT::r)):=by simp
  rw[e];show pZ (wW cD::wW s.name.data.toList::(fV dB s.aS++(eT::r)))=_;unfold pZ;rw[ag (cB (dO _)),ag (eN (eO hn) _),ag (qA hb T Tad Tab)];open zdY in exact ZbE
 rw[if_neg h7] at h ⊢;by_cases h8:s.kind=8
 ·rw[if_pos h8] at h ⊢;simp only[aJ,bj,Bool.and_eq_true,beq_iff_eq] at h;obtain⟨⟨hl,Rv⟩,hq⟩:=h;have li:=eF hl;have hq2:=Eu hq T;have e:mq s.query++(eT::r)=wW dw::((mq s.query).tail++(eT::r)):=rfl;rw[e] at hq2 ⊢;show qa (wW dw::((mq s.query).tail++(eT::r)))=_;unfold qa;rw[ag hq2];open zdZ in exact ZbE
 rw[if_neg h8] at h ⊢;by_cases h9:9<=s.kind/\s.kind<=12
 ·rw[if_pos h9] at h;simp only[aJ,bj,Bool.and_eq_true] at h;obtain⟨hl, -,hn, -,hf,ht, -⟩:=h;have li:=eF hl;have hk:s.kind=9\/s.kind=10\/s.kind=11\/s.kind=12:=by omega
  have e:([wW lX]++ [wW (mW s.kind)]++ [sW [40]]++([wW s.name.data.toList]++([sW [44]]++((if s.kind=9 then Ao s.aP++ [sW [44]] else [])++(Ao s.dx++ [sW [41]])))))++(eT::r)=wW lX::wW (mW s.kind)::sW [40]::wW s.name.data.toList::sW [44]::((if s.kind=9 then Ao s.aP++ [sW [44]] else [])++(Ao s.dx++(sW [41]::(eT::r)))):=by simp
  rw[e];show AO (wW (mW s.kind)::sW [40]::wW s.name.data.toList::sW [44]::((if s.kind=9 then Ao s.aP++ [sW [44]] else [])++(Ao s.dx++(sW [41]::(eT::r)))))=_;have any:∀l,jS [bV,bQ,df,eP] (wW (mW s.kind)::l)=.ok (mW s.kind,l):=by intro l;unfold mW;rcases hk with e | e | e | e <;> rw[e] <;> rfl
  have anm:(if mW s.kind=bV then(9:Int)else if mW s.kind=bQ then 10 else if mW s.kind=df then 11 else 12)=s.kind:=by unfold mW;rcases hk with e | e | e | e <;> rw[e] <;> rfl
  have aP:∀l,kB s.kind ((if s.kind=9 then Ao s.aP++ [sW [44]] else [])++l)=.ok (s.aP,l):=by
   intro l;unfold kB;by_cases e9:s.kind=9
   ·rw[if_pos e9] at hf;rw[if_pos e9,if_pos e9];rw[aJ,Bool.and_eq_true] at hf;rw[append_assoc,ag (N4 hf.1 _)];rfl
   ·rw[if_neg e9] at hf;rw[bj] at hf;rw[if_neg e9,if_neg e9,Al hf];rfl
  unfold AO;rw[ag (any _)];rw[anm,ag (cB rfl),ag (eN (eO hn) _),ag (cB rfl),ag (aP _),ag (N4 ht _),ag (cB rfl)];open zd0 in exact ZbE
 ·rw[if_neg h9] at h;cases h
theorem acm(h:(ct s).isSome=true):s.long=false:=by
 have lq:(iU s.query).isSome=true->s.query.long=false:=by
  intro h;unfold iU at h;simp only[aJ,Bool.and_eq_true] at h;obtain⟨-,hi, -, -, -, -,hg, -,ho, -⟩:=h
  have l1:s.query.items.length<=64:=by
   split at hi
   ·omega
   ·exact vL hi
  have lead:∀ {α:Type} {ld:aX} {f:α->Option aX} {l:List α},(ix ld (l.map f)).isSome=true->l.length<=64:=by
   intro α ld f l h;unfold ix at h;split at h
   ·rename_i e;rw[length_map] at e;omega
   ·rw[aJ,Bool.and_eq_true] at h;exact vL h.2
  have l2:=lead hg;have l3:=lead ho;unfold Qu.long;simp only[Bool.or_eq_false_iff,decide_eq_false_iff_not];exact⟨⟨by omega,by omega⟩,by omega⟩
 have q0:(({}:Qu).long)=false:=rfl;have fin:s.bg.length<=64->s.rows.length<=64->(∀r∈s.rows,r.length<=64)->s.bF.length<=64->s.query.long=false->s.long=false:=by intro a b c d e;unfold St.long;simp only[Bool.or_eq_false_iff,decide_eq_false_iff_not,any_eq_false,decide_eq_true_eq];exact⟨⟨⟨⟨by omega,by omega⟩,λ r hr=>by have:=c r hr;omega⟩,by omega⟩,e⟩
 unfold ct at h;split at h
 ·unfold nU at h;simp only[aJ,bj,Bool.and_eq_true] at h;have li:=eF h.1;exact fin (vL h.2.2.2.2.1) Tau Tau TaQ TaW
 split at h
 ·unfold BA at h;exact ZeJ
 split at h
 ·simp only[aJ,bj,Bool.and_eq_true] at h;have li:=eF h.1;exact fin TaF Tau Tau TaQ (lq h.2.2.2.2)
 split at h
 ·simp only[aJ,bj,Bool.and_eq_true] at h;have li:=eF h.1.2;exact ZbU
 split at h
 ·simp only[aJ,bj,Bool.and_eq_true] at h;have li:=eF h.1;refine fin TaF (vL h.2.2.2.2) (λ r hr=>?_) TaQ TaW;have:=iH _ h.2.2.2.2 _ (List.mem_map.2 ⟨r,hr,rfl⟩);unfold zH at this;simp only[aJ,Bool.and_eq_true] at this;exact vL this.2.1
 split at h
 ·simp only[aJ,bj,Bool.and_eq_true] at h;have li:=eF h.1;exact fin TaF Tau Tau (vL h.2.2.2.2.1) TaW
 split at h
 ·exact ZeJ
 split at h
 ·simp only[aJ,bj,Bool.and_eq_true] at h;have li:=eF h.1.1;exact fin TaF Tau Tau TaQ (lq h.2)
 split at h
 ·exact ZeJ
 ·cases h
theorem acn{t:aX}(hlx:Lx lJ t (Es s))(hlen:t.length<=4096)(hsome:(ct s).isSome=true):gw t=.ok s:=by
 obtain⟨ps,hrun,hps⟩:=hlx [] (λ c hc=>by cases hc);have hr:=hrun [] [] (VL.stop []);rw[append_nil,append_nil] at hr;have asy:=aca hlen hr rfl;have hw:(ps.map (L0 t.length)++ [Qq t.length]).map (·.w)=Es s++(eT:: []):=by rw[map_append,map_map,<- hps];rfl
 unfold gw;rw[asy];dsimp only;rw[hw];have ahK:zG (Es s++(eT:: []))=.ok (s,[eT]):=by unfold zG;rw[ag (VT hsome []),mY rfl];rfl
 rw[ahK];dsimp only;rw[acm hsome,if_neg Tab];have hd:di s.exprs=false:=by unfold di;rw[any_eq_false];intro x hx;have:=VK hsome x hx;simp only[decide_eq_true_eq];omega
 rw[hd,if_neg Tab]
theorem QC(hs:s.Lxs) {t:aX}(h:zI s=(t,0)):gw t=.ok s:=by
 unfold zI at h
 cases e:ct s with
 | none=>rw[e] at h;cases h
 | some t2=>
   rw[e] at h;unfold qc at h;dsimp only at h;split at h
   ·cases h
   ·injection h with h1 h2;subst h1;exact acn (acj hs t2 e) Taa (by rw[e];rfl)
def Y7 (t:Wd):Prop:=(t.k=1->kP t.s=false->jd t.s=true)/\(t.k=2->0<=t.n/\t.n<=9223372036854775807)
def EW(p:Ps α)(Q:α->Prop):Prop:=∀l x r,(∀w∈l,Y7 w)->p l=.ok (x,r)->(∀w∈r,Y7 w)/\Q x
variable{β:Type}
theorem Bq{p:Ps α} {f:α->Ps β} {l r:aK} {y:β}(h:(p >>= f) l=.ok (y,r)):∃x m,p l=.ok (x,m)/\f x m=.ok (y,r):=by
 rw[gP] at h
 cases e:p l with
 | error n=>rw[e] at h;cases h
 | ok x=>rw[e] at h;exact⟨x.1,x.2,rfl,h⟩
section
variable {α β:Type} {p:Ps α} {Q Q':α->Prop} {R:β->Prop}
theorem ay {f:α->Ps β}(h:EW p Q)(k:∀x,Q x->EW (f x) R):EW (p >>= f) R:=by intro l y r hl e;obtain⟨x,m,h1,h2⟩:=Bq e;obtain⟨a,b⟩:=h _ _ _ hl h1;exact k x b _ _ _ a h2
theorem bY {x:α}(h:Q x):EW (pure x:Ps α) Q:=by intro l y r hl e;change Except.ok (x,l)=_ at e;injection e with e;injection e with e1 e2;subst e1 e2;exact⟨hl,h⟩
theorem QH (h:EW p Q)(k:∀x,Q x->Q' x):EW p Q':=λ l x r hl e=>⟨(h l x r hl e).1,k x (h l x r hl e).2⟩
theorem Nk:EW (tS:Ps α) Q:=by intro l x r hl e;cases e
theorem jr {c:Prop} [Decidable c] {q:Ps α}(h:c->EW p Q)(k:¬c->EW q Q):EW (if c then p else q) Q:=by
 split
 ·exact h ‹_›
 ·exact k ‹_›
theorem sN {l:aK}(h:∀w∈l,Y7 w):∀w∈l.tail,Y7 w:=λ w hw=>h w (mem_of_mem_tail hw)
theorem lj (s:List UInt8):EW (may s) λ _=>True:=by
 intro l x r hl e;unfold may at e;split at e
 ·exact Zgu
 ·injection e with e;injection e with e1 e2;subst e1 e2;exact⟨hl,trivial⟩
theorem cR (s:List UInt8):EW (must s) λ _=>True:=by
 intro l x r hl e;unfold must at e;split at e
 ·exact Zgu
 ·cases e
theorem Ar:∀ks:List (List UInt8),EW (jS ks) λ s=>s∈ks
 | []=>Nk
 | s::ks=>by
   intro l x r hl e;unfold jS at e;split at e
   ·injection e with e;injection e with e1 e2;subst e1 e2;exact⟨sN hl,by simp⟩
   ·obtain⟨a,b⟩:=Ar ks _ _ _ hl e;exact⟨a,mem_cons_of_mem _ b⟩
theorem ij:EW cC λ n=>jd n.data.toList=true:=by
 intro l x r hl e
 cases l with
 | nil=>cases e
 | cons t l=>
   simp only[cC] at e;split at e
   ·rename_i h;injection e with e;injection e with e1 e2;subst e1 e2;refine⟨λ w hw=>hl w TaT,?_⟩;simpa using(hl t Tad).1 h.1 h.2
   ·cases e
theorem sO:EW lZ λ n=>0<=n/\n<=9223372036854775807:=by
 intro l x r hl e
 cases l with
 | nil=>cases e
 | cons t l=>
   simp only[lZ] at e;split at e
   ·rename_i h;injection e with e;injection e with e1 e2;subst e1 e2;exact⟨λ w hw=>hl w TaT,(hl t Tad).2 h⟩
   ·cases e
theorem SU (h:EW p Q):∀(f:Nat) (acc:List α),(∀x∈acc,Q x)->0 < acc.length->EW (nD p f acc) λ l=>(∀x∈l,Q x)/\0 < l.length
 | 0,acc,ha,hn=>bY ⟨ha,hn⟩
 | f+1,acc,ha,hn=>by
   intro l y r hl e;simp only[nD] at e;split at e
   ·refine ay (R:=λ l=>(∀x∈l,Q x)/\0 < l.length) h (λ z hz=>SU h f (acc++ [z]) (λ x hx=>?_) Tad) _ _ _ (sN hl) e;rcases List.mem_append.1 hx with hx | hx
    ·exact ha x hx
    ·simp at hx;subst hx;exact hz
   ·injection e with e;injection e with e1 e2;subst e1;subst e2;exact⟨hl,ha,hn⟩
theorem sP (h:EW p Q):EW (dN p) λ l=>(∀x∈l,Q x)/\0 < l.length:=by
 refine ay h λ z hz=>?_
 intro l y r hl e;exact SU h l.length [z] (λ x hx=>by simp at hx;subst hx;exact hz) Tad l y r hl e
end
theorem aT{a b:Option aX}:(aq a b).isSome=(a.isSome && b.isSome):=by cases a <;> cases b <;> rfl
theorem bX (b:Bool):(bl b).isSome=b:=by cases b <;> rfl
variable{n:ByteArray}
theorem dJ(h:jd n.data.toList=true):(dz n).isSome=true:=by unfold dz;rw[aT,bX,h];rfl
theorem lL{n:Int}(h:0<=n):(se n).isSome=true:=by unfold se;rw[aT,bX];simp[h]
theorem EK:∀l:List (Option aX),(∀o∈l,o.isSome=true)->(dV l).isSome=true
 | [],_=>rfl
 | [o],h=>by rw[jT];exact h o Tad
 | o::p::l,h=>by rw[kW,aT,aT,h o Tad,EK (p::l) λ x hx=>h x Tbe];rfl
theorem mZ{l:List (Option aX)}(h:∀o∈l,o.isSome=true)(h0:0 < l.length)(h1:l.length<=64):(dL l).isSome=true:=by unfold dL;rw[aT,bX,EK l h];simp[h0,h1]
variable{op:Int}
theorem Au{o:Option aX}(h:o.isSome=true):(jF (op,o)).isSome=true:=by
 unfold jF;split
 ·rw[aT,aT];simp only at h ⊢;rw[h];rfl
 ·exact h
def Told (t:Tr):Prop:=t.out.isSome=true
theorem Av:bJ aV ByteArray.empty 0=true:=by simp[bJ,kX,aV]
variable{o:Int}{x y:Tr}
theorem Nl(ho:cL o=true)(hx:Told x)(hy:Told y):Told (lO o [x,y]):=by
 have h5:5<=o/\o<=17:=by simpa [cL] using ho
 unfold Told lO Tr.out;rw[nG];simp only[map_cons,map_nil];unfold kY;rw[if_neg Taa,if_neg Taa,if_neg Taa,if_pos ho,Av];simp only[if_true];rw[aT,aT,Au hx,Au hy];rfl
theorem EL(ho:o=3\/o=4\/o=18\/o=19)(hx:Told x):Told (lO o [x]):=by
 unfold Told lO Tr.out;rw[nG];simp only[map_cons,map_nil];rcases ho with rfl | rfl | rfl | rfl <;>(unfold kY;simp[cL,Av,aT,Au hx])
theorem R4(h:jd n.data.toList=true):Told (rV n):=by unfold Told rV Tr.out Tr.outs kY;simp[aT,bX,dJ h,kX,aV]
theorem uT(h:good v=true)(h2:v.k≠2\/0<=v.n):Told (mI v):=by unfold Told mI Tr.out Tr.outs kY;simp only[if_true];rw[aT,bX,h];simp;exact h2
theorem Wv:Told (lO 21 []):=by unfold Told lO Tr.out Tr.outs kY;simp[aT,bX,Av]
theorem R5(ho:o∈ [22,23,24,25,26])(hx:Told x):Told (.mk o aV ByteArray.empty 0 [x]):=by
 unfold Told Tr.out;rw[nG];unfold Told at hx;simp only[mem_cons,not_mem_nil,or_false] at ho;rcases ho with rfl | rfl | rfl | rfl | rfl <;>(unfold kY;simp[cL,ko,nS,aT,bX,kX,aV,jT,hx])
theorem Ww{w:Int} (hw:0<=w)(hx:Told x):Told (.mk 20 aV ByteArray.empty w [x]):=by unfold Told Tr.out;rw[nG];unfold Told at hx;unfold kY;simp[cL,ko,nS,aT,bX,kX,aV,jT,hx,lL hw]
theorem R6(ho:o∈ [27,28])(hx:Told x)(hy:Told y):Told (.mk o aV ByteArray.empty 0 [x,y]):=by
 unfold Told Tr.out;rw[nG];unfold Told at hx hy;simp only[mem_cons,not_mem_nil,or_false] at ho;rcases ho with rfl | rfl <;>(unfold kY;simp[cL,ko,nS,aT,bX,kX,aV,kW,jT,hx,hy])
theorem R7:∀(k:List (List UInt8×Int)) (l:aK) (o:Int),eB k l=some o->∃s,(s,o)∈k
 | [],_,_,h=>by cases h
 |(s,o)::k,l,o2,h=>by
  simp only[eB] at h;split at h
  ·injection h with h;subst h;exact⟨s,by simp⟩
  ·obtain⟨s2,h2⟩:=R7 k l o2 h;exact⟨s2,mem_cons_of_mem _ h2⟩
variable{lv:Nat}
theorem R8{l:aK} (h:eB (opsL lv) l=some o):cL o=true:=by obtain⟨s,hs⟩:=R7 _ _ _ h;unfold opsL at hs;split at hs <;> simp at hs <;>(simp only[cL,Bool.and_eq_true,decide_eq_true_eq];omega)
variable{below:Ps Tr}
theorem Nn(hb:EW below Told)(lv:Nat):∀(f:Nat) (x:Tr),Told x->EW (jE below lv f x) Told
 | 0,x,hx=>bY hx
 | f+1,x,hx=>by
   intro l y r hl e;simp only[jE] at e;split at e
   ·injection e with e;injection e with e1 e2;subst e1 e2;exact⟨hl,hx⟩
   ·rename_i o ho;exact ay hb (λ z hz=>Nn hb lv f _ (Nl (R8 ho) hx hz)) _ _ _ (sN hl) e
theorem Cs(hb:EW below Told)(lv:Nat):EW (jZ below lv) Told:=
 ay hb λ x hx=>λ l y r hl e=>Nn hb lv l.length x hx l y r hl e
theorem aib(hb:EW below Told):EW (qU below) Told:=
 ay hb λ x hx=>ay (lj _) λ b _=>jr (λ _=>ay (lj _) λ n _=>ay (cR _) λ _ _=>bY (by cases n;exact EL Tad hx;exact EL Tad hx)) λ _=>by
  intro l y r hl e;simp only[wQ] at e;split at e
  ·injection e with e;injection e with e1 e2;subst e1 e2;exact⟨hl,hx⟩
  ·rename_i o ho;exact ay hb (λ z hz=>bY (Nl (R8 (lv:=3) ho) hx hz)) _ _ _ (sN hl) e
variable{same:Ps Tr}
theorem aeR{s:List UInt8}  (ho:op=3\/op=4\/op=18\/op=19)(hs:EW same Told)(hb:EW below Told):EW (IQ s op same below) Told:=
 ay (lj _) λ b _=>jr (λ _=>ay hs λ x hx=>bY (EL ho hx)) λ _=>hb
variable{whole:Ps Tr}
theorem SV(hw:EW whole Told) (ho:op∈ [20,22,23,24,25,26,27,28]):EW (nY whole op) Told:=by
 unfold nY;refine ay (Q:=λ w=>0<=w/\(op=20\/w=0)) ?_ λ w hw0=>ay hw λ x hx=>ay (Q:=λ ys=>(∀y∈ys,Told y)/\ys.length=if op=27\/op=28 then 1 else 0) ?_ λ ys hys=>ay (cR _) λ _ _=>bY ?_
 ·unfold rY;exact jr (λ h=>ay sO λ n hn=>ay (cR _) λ _ _=>bY ⟨hn.1,.inl h⟩) λ h=>bY ⟨by omega,.inr rfl⟩
 ·unfold ot;refine jr (λ h=>ay (cR _) λ _ _=>ay hw λ y hy=>bY ⟨λ z hz=>by simp at hz;subst hz;exact hy,by simp[h]⟩) λ h=>bY ⟨by simp,by simp[h]⟩
 ·obtain⟨h1,h2⟩:=hys;by_cases Xn:op=27\/op=28
  ·rw[if_pos Xn] at h2
   match ys,h2 with
   | [y],_=>
     have:w=0:=by rcases hw0.2 with h | h <;> omega
     subst this;exact R6 (by simpa using Xn) hx (h1 y Tad)
  ·rw[if_neg Xn] at h2
   match ys,h2 with
   | [],_=>
     by_cases Mj:op=20
     ·subst Mj;exact Ww hw0.1 hx
     ·have:w=0:=by rcases hw0.2 with h | h <;> omega
      subst this;refine R5 ?_ hx;simp only[mem_cons,not_mem_nil,or_false] at ho ⊢;omega
theorem Wx(h:lB n=some o):o∈ [20,22,23,24,25,26,27,28]:=by
 unfold lB at h
 have:∀(k:List (List UInt8×Int)) (s:List UInt8),k.lookup s=some o->∃s2,(s2,o)∈k:=by
  intro k s
  induction k with
  | nil=>intro h;cases h
  | cons a k ih=>
    intro h;obtain⟨a1,a2⟩:=a;simp only[List.lookup] at h;split at h
    ·injection h with h;subst h;exact⟨a1,by simp⟩
    ·obtain⟨s2,h2⟩:=ih h;exact⟨s2,mem_cons_of_mem _ h2⟩
 obtain⟨s2,h2⟩:=this _ _ h;unfold XW at h2;simp only[mem_cons,not_mem_nil,or_false,Prod.mk.injEq] at h2 ⊢;omega
theorem aic(hw:EW whole Told) (ho:op∈ [20,22,23,24,25,26,27,28]):EW (ou whole op) Told:=by
 unfold ou;refine jr (λ h=>?_) λ _=>SV hw ho
 unfold countP;exact ay (lj _) λ b _=>jr (λ _=>ay (cR _) λ _ _=>bY Wv) λ _=>SV hw Tad
theorem R9(hw:EW whole Told):EW (kU whole) Told:=
 ay ij λ n hn=>by
  intro l y r hl e;simp only at e;split at e
  ·split at e
   ·cases e
   ·rename_i o ho;exact aic hw (Wx ho) _ _ _ (sN hl) e
  ·injection e with e;injection e with e1 e2;subst e1 e2;exact⟨hl,R4 hn⟩
theorem acI(hw:EW whole Told):EW (dZ whole) Told:=by
 intro l y r hl e
 cases l with
 | nil=>cases e
 | cons t l=>
   have ht:=hl t Tad;have hl2:∀w∈l,Y7 w:=λ w hw=>hl w TaT
   simp only[dZ] at e;split at e
   ·rename_i h;injection e with e;injection e with e1 e2;subst e1 e2;exact⟨hl2,uT (by simp[good,kQ]) (.inr (ht.2 h).1)⟩
   split at e
   ·injection e with e;injection e with e1 e2;subst e1 e2;exact⟨hl2,uT (by simp[good]) (.inl Tad)⟩
   split at e
   ·exact Ze0
   split at e
   ·exact Ze0
   split at e
   ·injection e with e;injection e with e1 e2;subst e1 e2;exact⟨hl2,uT (by simp[good,kQ,aV]) (.inl (by simp[aV]))⟩
   split at e
   ·exact ay hw (λ x hx=>ay (cR _) λ _ _=>bY hx) _ _ _ hl2 e
   ·exact R9 hw _ _ _ hl e
theorem uU:∀f lv:Nat,EW (pE f lv) Told
 | 0,_=>Nk
 | f+1,0=>Cs (uU f 1) 0
 | f+1,1=>Cs (uU f 2) 1
 | f+1,2=>aeR Tad (uU f 2) (uU f 3)
 | f+1,3=>aib (uU f 4)
 | f+1,4=>Cs (uU f 5) 4
 | f+1,5=>Cs (uU f 6) 5
 | f+1,6=>aeR Tad (uU f 6) (uU f 7)
 | f+1,lv+7=>acI (uU f 0)
theorem vN:EW eD Told:=λ l x r hl e=>uU _ 0 l x r hl e
theorem S0 (c:UInt8)(h:cq c=true):wF (kN c)=false/\cq (kN c)=true:=by have:=L3 (P:=λ c=> !cq c ||(!wF (kN c)&& cq (kN c))) TaP c;simp[h] at this;exact this
theorem QI (c:UInt8)(h:bH c=true):aL (kN c)=false:=by have:=L3 (P:=λ c=> !bH c || !aL (kN c)) TaP c;simp[h] at this;exact this
theorem acJ{w:Wd}(h:aht w):Y7 w:=by
 rcases h.cases with ⟨c,r,rfl,h1,h2,h3⟩|⟨n,rfl,hn⟩|⟨s,rfl⟩|⟨s,rfl,_⟩
 ·refine⟨λ _ hr=>?_,λ e=>by simp at e⟩;simp only[map_cons] at hr ⊢;unfold jd;simp only[Bool.and_eq_true,decide_eq_true_eq,Bool.not_eq_true',all_eq_true];refine⟨⟨⟨by simpa using h3,hr⟩,QI c h1⟩,λ x hx=>?_⟩;obtain⟨y,hy,rfl⟩:∃y∈c::r,kN y=x:=by have:x∈(c::r).map kN:=hx;exact List.mem_map.1 this
  exact S0 y (h2 y hy)
 ·exact⟨λ e=>by simp at e,λ _=>⟨by simp,by simp only;omega⟩⟩
 ·exact⟨λ e=>by simp at e,λ e=>by simp at e⟩
 ·exact⟨λ e=>by simp at e,λ e=>by simp at e⟩
theorem Np (n:Nat):∀(f:Nat) (r:List UInt8) (l:List na),oZ n f r=.ok l->∀t∈l,Y7 t.w
 | 0,r,l,h=>by cases h
 | f+1,r,l,h=>by
   simp only[oZ] at h;split at h
   ·injection h with h;subst h;intro t ht;simp at ht;subst ht;exact⟨λ e=>by simp at e,λ e=>by simp at e⟩
   ·split at h
    ·cases h
    ·rename_i w rest ho;split at h
     ·cases h
     ·rename_i l' hl';injection h with h;subst h;intro t ht;rcases List.mem_cons.1 ht with rfl | ht
      ·exact acJ ⟨_,_,ho⟩
      ·exact Np n f rest l' hl' t ht
theorem Nq{s:List UInt8} {l:List na}(h:kO s=.ok l):∀w∈l.map (·.w),Y7 w:=by
 unfold kO at h;split at h
 ·cases h
 ·intro w hw;obtain⟨t,ht,rfl⟩:=List.mem_map.1 hw;exact Np _ _ _ _ h t ht
def Kq (n:ByteArray):Prop:=n=ByteArray.empty\/jd n.data.toList=true
structure aeS (q:Qu):Prop where
 items:∀x∈q.items,Told x.1/\Kq x.2
 aP:jd q.aP.data.toList=true
 aS:(∀t∈q.aS,Told t)/\q.aS.length<=1
 group:∀t∈q.group,Told t
 having:(∀t∈q.having,Told t)/\q.having.length<=1
 order:∀x∈q.order,Told x.1
 aN:(∀n∈q.aN,0<=n/\n<=9223372036854775807)/\q.aN.length<=1
theorem lM{t:Tr}(h:Told t)(hd:t.depth<=32):t.whole.isSome=true:=by unfold Tr.whole;rw[if_neg Taa];exact h
theorem oF{w:aX} (h:∀t∈l,Told t)(hl:l.length<=1)(hd:∀t∈l,t.depth<=32):(dX w l).isSome=true:=by
 unfold dX;rw[aT,bX]
 match l with
 | []=>simp
 | [t]=>simp[aT,lM (h t Tad) (hd t Tad)]
 | _::_::_=>simp at hl
theorem EM{w:aX} {l:List (Option aX)}(h:∀o∈l,o.isSome=true)(hl:l.length<=64):(ix w l).isSome=true:=by
 unfold ix;split
 ·rfl
 ·rw[aT,mZ h Taa hl];rfl
theorem QJ{x:Tr×ByteArray}(h:Told x.1/\Kq x.2)(hd:x.1.depth<=32):(nZ x).isSome=true:=by
 unfold nZ;rw[aT,lM h.1 hd];split
 ·rfl
 ·rename_i hne;rcases h.2 with e | e
  ·exact absurd (by rw[e];simp) hne
  ·rw[aT,dJ e];rfl
theorem Br{q:Qu}(h:aeS q)(hd:∀t∈q.exprs,t.depth<=32)(hl:q.long=false):(iU q).isSome=true:=by
 unfold Qu.long at hl;simp only[Bool.or_eq_false_iff,decide_eq_false_iff_not] at hl;obtain⟨⟨l1,l2⟩,l3⟩:=hl;unfold Qu.exprs at hd;simp only[mem_append,mem_map] at hd;unfold iU;simp only[aT,Bool.and_eq_true];refine⟨rfl,?_,rfl,rfl,dJ h.aP,oF h.aS.1 h.aS.2 λ t ht=>hd t (.inl (.inl (.inl (.inr ht)))),EM (λ o ho=>?_) Tae,oF h.having.1 h.having.2 λ t ht=>hd t (.inl (.inr ht)),EM (λ o ho=>?_) Tae,?_⟩
 ·split
  ·rfl
  ·refine mZ (λ o ho=>?_) Tae Tae;obtain⟨x,hx,rfl⟩:=List.mem_map.1 ho;exact QJ (h.items x hx) (hd _ (.inl (.inl (.inl (.inl ⟨x,hx,rfl⟩)))))
 ·obtain⟨x,hx,rfl⟩:=List.mem_map.1 ho;exact lM (h.group x hx) (hd _ (.inl (.inl (.inr hx))))
 ·obtain⟨x,hx,rfl⟩:=List.mem_map.1 ho;unfold jn;rw[aT,lM (h.order x hx) (hd _ (.inr ⟨x,hx,rfl⟩))];split <;> rfl
 ·unfold wR;rw[aT,bX];obtain⟨h1,h2⟩:=h.aN;revert h1 h2;generalize q.aN=ll;intro h1 h2
  match ll with
  | []=>simp
  | [n]=>simp[aT,lL (h1 n Tad).1]
  | _::_::_=>simp at h2
theorem vO (s:List UInt8):EW (fU s) λ l=>(∀t∈l,Told t)/\l.length<=1:=
 ay (lj _) λ b _=>jr (λ _=>ay vN λ x hx=>bY ⟨λ t ht=>by simp at ht;subst ht;exact hx,Nat.le_refl _⟩) λ _=>bY ⟨λ t ht=>by simp at ht,Nat.zero_le _⟩
theorem acK:EW nE λ x=>Told x.1/\Kq x.2:=
 ay vN λ x hx=>ay (lj _) λ b _=>jr (λ _=>ay ij λ n hn=>bY ⟨hx,.inr hn⟩) λ _=>bY ⟨hx,.inl rfl⟩
theorem S1:EW km λ x=>Told x.1:=
 ay vN λ x hx=>ay (lj _) λ b _=>bY hx
theorem S3:EW qG λ l=>∀x∈l,Told x.1/\Kq x.2:=
 ay (lj _) λ b _=>jr (λ _=>bY λ t ht=>by simp at ht) λ _=>QH (sP acK) λ _ h=>h.1
theorem S4:EW pc λ l=>∀x∈l,Told x:=
 ay (lj _) λ b _=>jr (λ _=>ay (cR _) λ _ _=>QH (sP vN) λ _ h=>h.1) λ _=>bY λ t ht=>by simp at ht
theorem Wy:EW ma λ l=>∀x∈l,Told x.1:=
 ay (lj _) λ b _=>jr (λ _=>ay (cR _) λ _ _=>QH (sP S1) λ _ h=>h.1) λ _=>bY λ t ht=>by simp at ht
theorem S5:EW qH λ l=>(∀n∈l,0<=n/\n<=9223372036854775807)/\l.length<=1:=
 ay (lj _) λ b _=>jr (λ _=>ay sO λ n hn=>bY ⟨λ t ht=>by simp at ht;subst ht;exact hn,Nat.le_refl _⟩) λ _=>bY ⟨λ t ht=>by simp at ht,Nat.zero_le _⟩
theorem Nr:EW dc aeS:=
 ay (cR _) λ _ _=>ay S3 λ i hi=>ay (cR _) λ _ _=>ay (lj _) λ _ _=>ay ij λ f hf=>ay (vO _) λ w hw=>ay S4 λ g hg=>ay (vO _) λ h hh=>ay Wy λ o ho=>ay S5 λ l hl=>bY ⟨hi,hf,hw,hg,hh,ho,hl⟩
def uV (s:St):Prop:=(∀t∈s.exprs,t.depth<=32)->s.long=false->(ct s).isSome=true
theorem EO(h:s.long=false):s.bg.length<=64/\s.rows.length<=64/\(∀r∈s.rows,r.length<=64)/\s.bF.length<=64/\s.query.long=false:=by unfold St.long at h;simp only[Bool.or_eq_false_iff,decide_eq_false_iff_not,any_eq_false] at h;obtain⟨⟨⟨⟨l1,l2⟩,l3⟩,l4⟩,l5⟩:=h;refine⟨by omega,by omega,λ r hr=>?_,by omega,l5⟩;have:=l3 r hr;simp at this;omega
theorem type_of (s:List UInt8):1<=typeOf s/\typeOf s<=3:=by
 unfold typeOf;split
 ·omega
 split <;> omega
theorem aid:EW gL λ x=>jd x.1.data.toList=true/\1<=x.2/\x.2<=3:=
 ay ij λ n hn=>ay (Ar _) λ t _=>bY ⟨hn,type_of t⟩
theorem S6:EW tT λ x=>(x=(ByteArray.empty,0))\/(jd x.1.data.toList=true/\0<=x.2):=
 ay (lj _) λ b _=>jr (λ _=>ay ij λ n hn=>ay (cR _) λ _ _=>ay sO λ m hm=>bY (.inr ⟨hn,hm.1⟩)) λ _=>bY (.inl rfl)
theorem S7{c:ByteArray×Int}(h:jd c.1.data.toList=true/\1<=c.2/\c.2<=3):(Bw c).isSome=true:=by unfold Bw;rw[aT,aT,bX,dJ h.1];simp[h.2.1,h.2.2]
theorem acL(h:jd n.data.toList=true):n.toList≠ []:=by intro e;rw[MM e] at h;cases h
theorem S8:EW tU uV:=by
 unfold tU;refine ay ij λ n hn=>ay (cR _) λ _ _=>ay (sP aid) λ cs hcs=>ay (cR _) λ _ _=>ay (cR _) λ _ _=>ay ij λ t ht=>ay (cR _) λ _ _=>ay sO λ e he=>ay S6 λ sp hsp=>bY λ hd hl=>?_
 obtain⟨l1,_⟩:=EO hl;unfold ct;rw[if_pos rfl];unfold nU;simp only[aT,Bool.and_eq_true];refine⟨by rw[bX];simp[cY,Gj,kX,aV],rfl,dJ hn,rfl,mZ (λ o ho=>?_) (by simpa using hcs.2) (by simpa using l1),rfl,dJ ht,rfl,lL he.1,?_⟩
 ·obtain⟨x,hx,rfl⟩:=List.mem_map.1 ho;exact S7 (hcs.1 x hx)
 ·rcases hsp with rfl |⟨h1,h2⟩
  ·simp[bX]
  ·rw[if_neg (acL h1)];simp only[aT,dJ h1,lL h2];rfl
theorem acM:EW Gi uV:=by
 unfold Gi;refine ay ij λ n hn=>ay (cR _) λ _ _=>ay Nr λ q hq=>bY λ hd hl=>?_
 obtain⟨_,_,_,_,l5⟩:=EO hl;unfold ct;rw[if_neg Tad,if_neg Tad,if_pos rfl];simp only[aT,Bool.and_eq_true];exact⟨by rw[bX];simp[cY,Gj,kX,aV],rfl,dJ hn,rfl,Br hq (λ t ht=>hd t Tax) l5⟩
theorem acN (s:List UInt8):EW (tV s) λ x=>0<=x.1/\(if s=bV then 0<=x.2 else x.2=0):=by
 unfold tV;exact jr (λ h=>ay (cR _) λ _ _=>ay sO λ a ha=>ay (cR _) λ _ _=>ay sO λ b hb=>bY ⟨ha.1,by rw[if_pos h];exact hb.1⟩) λ h=>ay (cR _) λ _ _=>ay sO λ a ha=>bY ⟨ha.1,by rw[if_neg h]⟩
theorem aie:EW Fk uV:=by
 unfold Fk;refine ay ij λ n hn=>ay (Ar _) λ s hs=>ay ij λ o ho=>ay (acN s) λ ab hab=>ay (cR _) λ _ _=>ay sO λ e he=>bY λ hd hl=>?_
 unfold ct;rw[if_neg Tad,if_pos rfl];unfold BA;obtain⟨h1,h2⟩:=hab;simp only[aT,Bool.and_eq_true];refine⟨by rw[bX];simp[cY,Gj,kX,aV],rfl,dJ hn,?_,rfl,dJ ho,?_,rfl,lL he.1⟩
 ·rw[bX];split
  ·rfl
  split <;> rfl
 ·by_cases hr:s=bV
  ·rw[if_pos hr] at h2;simp only[hr,if_true];simp only[aT,lL h1,lL h2];rfl
  ·rw[if_neg hr] at h2;simp only[hr,if_false];rw[if_neg (by split <;> decide)];simp only[aT,bX,lL h1,h2];rfl
theorem Wz:EW kK uV:=
 ay (Ar _) λ _ _=>jr (λ _=>S8) λ _=>jr (λ _=>acM) λ _=>aie
theorem acO:EW AL uV:=by
 unfold AL;refine ay (Ar _) λ s _=>ay ij λ n hn=>bY λ hd hl=>?_
 unfold ct;rw[if_neg Tad,if_neg Tad,if_neg Tad,if_pos rfl];simp only[aT,Bool.and_eq_true];refine⟨?_,rfl,dJ hn⟩;rw[bX];simp only[cY];split
 ·simp[oa,Gj,kX,aV]
 split
 ·simp[oa,Gj,kX,aV]
 ·simp[oa,Gj,kX,aV]
theorem aif:EW rZ λ l=>(∀t∈l,Told t)/\0 < l.length:=
 ay (cR _) λ _ _=>ay (sP vN) λ l hl=>ay (cR _) λ _ _=>bY hl
theorem WA:EW pX uV:=by
 unfold pX;refine ay (cR _) λ _ _=>ay ij λ n hn=>ay (cR _) λ _ _=>ay (sP aif) λ rs Rk=>bY λ hd hl=>?_
 obtain⟨_,l2,l3,_⟩:=EO hl;unfold ct;rw[if_neg Tad,if_neg Tad,if_neg Tad,if_neg Tad,if_pos rfl];simp only[aT,Bool.and_eq_true];refine⟨by rw[bX];simp[cY,Gj,kX,aV],rfl,dJ hn,rfl,mZ (λ o ho=>?_) (by simpa using Rk.2) (by simpa using l2)⟩;obtain⟨r,hr,rfl⟩:=List.mem_map.1 ho;unfold zH;rw[aT,aT,mZ (λ o ho=>?_) (by simpa using(Rk.1 r hr).2) (by simpa using l3 r hr)]
 ·rfl
 ·obtain⟨t,ht,rfl⟩:=List.mem_map.1 ho;exact lM ((Rk.1 r hr).1 t ht) (hd t (by unfold St.exprs;simp only[mem_append,mem_flatten];exact .inl (.inl (.inl ⟨r,hr,ht⟩))))
theorem aih:EW vR λ x=>jd x.1.data.toList=true/\Told x.2:=
 ay ij λ n hn=>ay (cR _) λ _ _=>ay vN λ x hx=>bY ⟨hn,hx⟩
theorem WC:EW pY uV:=by
 unfold pY;refine ay ij λ n hn=>ay (cR _) λ _ _=>ay (sP aih) λ ss hss=>ay (vO _) λ w hw=>bY λ hd hl=>?_
 obtain⟨_,_,_,l4,_⟩:=EO hl;unfold ct;rw[if_neg Tad,if_neg Tad,if_neg Tad,if_neg Tad,if_neg Tad,if_pos rfl];simp only[aT,Bool.and_eq_true];refine⟨by rw[bX];simp[cY,Gj,kX,aV],rfl,dJ hn,rfl,mZ (λ o ho=>?_) (by simpa using hss.2) (by simpa using l4),oF hw.1 hw.2 λ t ht=>hd t TaX⟩;obtain⟨x,hx,rfl⟩:=List.mem_map.1 ho;unfold Bz;rw[aT,aT,dJ (hss.1 x hx).1,lM (hss.1 x hx).2 (hd _ (by unfold St.exprs;simp only[mem_append,mem_map];exact .inl (.inl (.inr ⟨x,hx,rfl⟩))))];rfl
theorem WE:EW pZ uV:=by
 unfold pZ;refine ay (cR _) λ _ _=>ay ij λ n hn=>ay (vO _) λ w hw=>bY λ hd hl=>?_
 unfold ct;rw[if_neg Tad,if_neg Tad,if_neg Tad,if_neg Tad,if_neg Tad,if_neg Tad,if_pos rfl];simp only[aT,Bool.and_eq_true];exact⟨by rw[bX];simp[cY,Gj,kX,aV],rfl,dJ hn,oF hw.1 hw.2 λ t ht=>hd t TaX⟩
theorem WG:EW qa uV:=by
 unfold qa;refine ay Nr λ q hq=>bY λ hd hl=>?_
 obtain⟨_,_,_,_,l5⟩:=EO hl;unfold ct;rw[if_neg Tad,if_neg Tad,if_neg Tad,if_neg Tad,if_neg Tad,if_neg Tad,if_neg Tad,if_pos rfl];simp only[aT,Bool.and_eq_true];exact⟨by rw[bX];simp[cY,Gj,kX,aV],Br hq (λ t ht=>hd t Tax) l5⟩
theorem S9:EW qV λ v=>v=aV\/(v.k=2/\v.s=ByteArray.empty/\ -9223372036854775808 < v.n):=by
 unfold qV;refine ay (lj _) λ b _=>jr (λ _=>bY (.inl rfl)) λ _=>ay (lj _) λ b _=>ay sO λ n hn=>bY (.inr ⟨rfl,rfl,?_⟩)
 simp only;split <;> omega
theorem Ns(h:v=aV\/(v.k=2/\v.s=ByteArray.empty/\ -9223372036854775808 < v.n)):(vS v).isSome=true:=by
 unfold vS;rw[aT,aT,bX,bX];rcases h with rfl |⟨h1,h2,h3⟩
 ·simp[aV,good,kQ]
 ·simp[h1,h2,h3,good,kQ]
theorem acP (k:Int):EW (kB k) λ v=>if k=9 then(v=aV\/(v.k=2/\v.s=ByteArray.empty/\ -9223372036854775808 < v.n))else v=aV:=by
 unfold kB;exact jr (λ h=>ay S9 λ v hv=>ay (cR _) λ _ _=>bY (by rw[if_pos h];exact hv)) λ h=>bY (by rw[if_neg h])
theorem acQ:EW AO uV:=by
 unfold AO;refine ay (Ar _) λ s _=>?_
 obtain⟨k,hk,hk2⟩:∃k:Int,(if s=bV then(9:Int)else if s=bQ then 10 else if s=df then 11 else 12)=k/\9<=k/\k<=12:=⟨_,rfl,by split;omega;split;omega;split <;> omega⟩;simp only[hk];refine ay (cR _) λ _ _=>ay ij λ n hn=>ay (cR _) λ _ _=>ay (acP k) λ f hf=>ay S9 λ t ht=>ay (cR _) λ _ _=>bY λ hd hl=>?_
 unfold ct;simp only;rw[if_neg Taa,if_neg Taa,if_neg Taa,if_neg Taa,if_neg Taa,if_neg Taa,if_neg Taa,if_neg Taa,if_pos Taa];simp only[aT,Bool.and_eq_true];refine⟨by rw[bX];simp[cY,Gj,kX,aV],rfl,dJ hn,rfl,?_,Ns ht,rfl⟩;by_cases h9:k=9
 ·rw[if_pos h9] at hf ⊢;rw[aT,Ns hf];rfl
 ·rw[if_neg h9] at hf ⊢;rw[bX,hf];simp[kX,aV]
theorem Kr:EW bK uV:=by
 intro l x r hl e
 match l with
 | []=>cases e
 | t::q=>
   simp only[bK] at e;have hq:∀w∈q,Y7 w:=λ w hw=>hl w TaT
   split at e
   ·cases e
   split at e
   ·exact WG _ _ _ hl e
   split at e
   ·exact Wz _ _ _ hq e
   split at e
   ·exact acO _ _ _ hq e
   split at e
   ·exact WA _ _ _ hq e
   split at e
   ·exact WC _ _ _ hq e
   split at e
   ·exact WE _ _ _ hq e
   split at e
   ·exact acQ _ _ _ hq e
   ·cases e
variable{d:St}
theorem WH{s:List UInt8} (h:gw s=.ok d):(ct d).isSome=true:=by
 unfold gw at h;split at h
 ·cases h
 ·rename_i l hlx;split at h
  ·cases h
  ·rename_i t r hw;split at h
   ·cases h
   ·rename_i Dn;split at h
    ·cases h
    ·rename_i PU;injection h with h;subst h;obtain⟨x,m,h1,h2⟩:=Bq (p:=bK) hw;have hs:=(Kr _ _ _ (Nq hlx) h1).2;have hx:x=t:=by obtain⟨_,m2,_,h3⟩:=Bq h2;obtain⟨_,m3,_,h4⟩:=Bq h3;rw[Je] at h4;injection h4 with h4;injection h4
     subst hx;refine hs (λ t ht=>?_) (by simpa using Dn);unfold di at PU;simp only[any_eq_true,decide_eq_true_eq,not_exists,not_and] at PU;have:=PU t ht;omega
end Go.Proofs.YtehhdlgjfdnafaaGreatDoor
