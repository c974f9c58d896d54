/- Parts of the proof. -/
import Derived.Test.YtehhdlgjfdnafaaGreatDoorXB28
namespace Go.Proofs.YtehhdlgjfdnafaaGreatDoor
open List
variable{p:Prop}
set_option maxHeartbeats 90000000
set_option maxRecDepth 100000
set_option linter.unusedVariables false
set_option linter.unusedSimpArgs false
def eT:Wd:=⟨0,[],0⟩
def Tl (ks:List aV)(r:aI):Prop:=∃t l,r=t::l/\(t=eT\/∃s∈ks,t=wW s)
variable{ks:List aV}
theorem lM{r:aI} {w:aV}(h:Tl ks r)(hw:w∉ks):ar w r=false:=by
 obtain⟨t,l,rfl,h |⟨s,hs,h⟩⟩:=h
 ·subst h;rfl
 ·subst h;cases e:ar w (wW s::l)
  ·rfl
  ·exfalso;have e:gJ w (wW s)=true:=e;unfold gJ wW at e;simp only[Bool.and_eq_true,beq_iff_eq] at e;exact hw (e.2▸hs)
theorem Gr:∀(ks:List (List UInt8×Int)) (r:aI),(∀x∈ks,ar x.1 r=false)->eR ks r=none
 | [],_,_=>rfl
 |(s,o)::ks,r,h=>by have h0:=h (s,o) Tae;dsimp only at h0;show(if ar s r=true then some o else eR ks r)=none;rw[if_neg (by rw[h0];decide)];exact Gr ks r λ x hx=>h x (by simp[hx])
def agl:List aV:=[bz,fe,Bg,uB,Hs,dB,Ht,adU,adV,adW,adX,adY,lQ,Km,WX]
def Js (ks:List aV):Bool:=ks.all λ s=> !agl.contains s
theorem rP{r:aI}(h:Tl ks r)(hk:Js ks=true)(k:Nat):Ends k r:=by
 have no:∀w,w∈agl->ar w r=false:=λ w hw=>lM h λ hm=>by have:=List.all_eq_true.1 hk w hm;simp only[Bool.not_eq_true',contains_eq_mem,decide_eq_false_iff_not] at this;exact this hw
 have op:∀j,(∀x∈opsL j,x.1∈agl)->eR (opsL j) r=none:=λ j hj=>Gr _ _ λ x hx=>no x.1 (hj x hx)
 exact⟨no _ Tab,λ _=>op 5 Tab,λ _=>op 4 Tab,λ _=>⟨op 3 Tab,no _ Tab⟩,λ _=>op 1 Tab,λ _=>op 0 Tab⟩
theorem agm (l:aI):Tl [] (eT::l):=⟨eT,l,rfl,.inl rfl⟩
theorem Jt{s:aV}(h:s∈ks)(l:aI):Tl ks (wW s::l):=⟨_,l,rfl,.inr ⟨s,h,rfl⟩⟩
theorem Tl.more{r:aI}(h:Tl ks r)(s:aV):Tl (s::ks) r:=by
 obtain⟨t,l,e,h |⟨u,hu,h⟩⟩:=h
 ·exact⟨t,l,e,.inl h⟩
 ·exact⟨t,l,e,.inr ⟨u,mem_cons_of_mem _ hu,h⟩⟩
theorem rQ (l:aI)(k:Nat):Ends k (sW [44]::l):=⟨rfl,λ _=>rfl,λ _=>rfl,λ _=>⟨rfl,rfl⟩,λ _=>rfl,λ _=>rfl⟩
theorem oK{t:Tr}(h:t.whole.isSome=true):Rd t:=Tr.read t (by
 unfold Tr.whole at h
 split at h
 ·cases h
 ·exact h)
variable{α:Type}
theorem Mk{s:aV} {t:Wd}(h:gJ s t=true)  {f:Bool->Ps α} {r:aI}:(may s >>= f) (t::r)=f true r:=by rw[bQ];exact if_pos h
def Ay (l:List aI):aI:=match l with
 | []=> []
 | y::r=>sW [44]::df (y::r)
theorem wM (x:aI)(l:List aI):df (x::l)=x++Ay l:=by
 cases l with
 | nil=>rw[qI];simp[Ay]
 | cons y r=>rw[wI];rfl
variable{el:Ps α}{W:α->aI}{E:aI->Prop}
theorem Gs(hs:cK el)  (hE:∀l,E (sW [44]::l)) {r:aI}(hr:E r)(hc:ar bk r=false):∀(l acc:List α),(∀x∈l,∀r,E r->el (W x++r)=.ok (x,r))->xB el acc (Ay (l.map W)++r)=.ok (acc++l,r)
 | [],acc,_=>by rw[xC hs,bQ];show(if ar bk r=true then _ else(pure acc:Ps (List α)) r)=_;rw[if_neg (by rw[hc];decide),append_nil];rfl
 | x::l,acc,IP=>by
   have ih:=Gs hs hE hr hc l (acc++ [x]) λ y hy=>IP y (by simp[hy])
   have e:Ay ((x::l).map W)++r=sW [44]::(W x++(Ay (l.map W)++r)):=by rw[map_cons];show sW [44]::df (W x::l.map W)++r=_;rw[wM];simp
   have he:E (Ay (l.map W)++r):=by
    cases l with
    | nil=>exact hr
    | cons y l=>exact hE _
   rw[e,xC hs,Mk rfl,if_pos rfl,ag (IP x Tae _ he),ih];simp
theorem nU(hs:cK el)  (hE:∀l,E (sW [44]::l)) {r:aI}(hr:E r)(hc:ar bk r=false) {l:List α}(hl:l≠ [])(IP:∀x∈l,∀r,E r->el (W x++r)=.ok (x,r)):dI el (df (l.map W)++r)=.ok (l,r):=by
 match l,hl with
 | x::l,_=>
   have he:E (Ay (l.map W)++r):=by
    cases l with
    | nil=>exact hr
    | cons y l=>exact hE _
   rw[map_cons,wM,append_assoc,Il,ag (IP x Tae _ he),Gs hs hE hr hc l [x] λ y hy=>IP y (by simp[hy])];rfl
variable{x:α}{tl:aI}
theorem Vi(W:α->aI)  {l:List α} {h:Wd} (e:W x=h::tl):∃t2,df ((x::l).map W)=h::t2:=⟨tl++Ay (l.map W),by rw[map_cons,wM,e];rfl⟩
theorem my{t:Tr}(h:Rd t) {r:aI}(hr:Ends 0 r):eJ (t.words++r)=.ok (t,r):=h.top r hr
variable{l:List Tr}
theorem DK(hl:l≠ [])(h:∀t∈l,Rd t) {r:aI}(hr:Ends 0 r)(hc:ar bk r=false):dI eJ (df (l.map Tr.words)++r)=.ok (l,r):=
 nU kH (E:=Ends 0) (λ l=>rQ l 0) hr hc hl λ t ht r hr=>my (h t ht) hr
theorem alS (s:ByteArray):(⟨s.data.toList.toArray⟩:ByteArray)=s:=by obtain⟨⟨l⟩⟩:=s;rfl
theorem eA{s:ByteArray}(h:pR s.data.toList=true)(r:aI):cD (wW s.data.toList::r)=.ok (s,r):=by rw[Me (DG h).1,alS]
theorem qN (n:Int)(r:aI):nh (nW n::r)=.ok (n,r):=rfl
theorem mF{s:aV} {t:Wd}(h:gJ s t=true) (f:Bool->Ps α)(r:aI):(may s >>= f) (t::r)=f true r:=by rw[bQ];exact if_pos h
theorem mz{s:aV} {r:aI}(h:ar s r=false) (f:Bool->Ps α):(may s >>= f) r=f false r:=by rw[bQ];exact if_neg (by rw[h];decide)
theorem dz (s:aV):gJ s (wW s)=true:=by unfold gJ wW;simp
theorem G6{s:aV}(h:pR s=true) {w:aV}(hw:kO w=true)(r:aI):ar w (wW s::r)=false:=by
 cases e:ar w (wW s::r)
 ·rfl
 ·exfalso;have e:gJ w (wW s)=true:=e;unfold gJ wW at e;simp only[Bool.and_eq_true,beq_iff_eq] at e;have:=(DG h).1;rw[e.2,hw] at this;cases this
theorem eB{s:ByteArray}(h:(dx s).isSome=true):pR s.data.toList=true:=by unfold dx at h;rw[aH,aZ,Bool.and_eq_true] at h;exact h.1
theorem Vj{x:Tr×ByteArray}(h:(pd x).isSome=true) {r:aI}(hr:Ends 0 r)(ha:ar lR r=false):nZ (xW x++r)=.ok (x,r):=by
 obtain⟨t,nm⟩:=x;unfold pd at h;rw[aH,Bool.and_eq_true] at h;obtain⟨h1,h2⟩:=h;have rt:=oK h1;unfold xW nZ;dsimp only at h2 ⊢;by_cases e:nm.toList=[]
 ·rw[if_pos e,append_nil,ag (my rt hr),mz ha,MR e];rfl
 ·rw[if_neg e] at h2 ⊢;rw[aH,Bool.and_eq_true] at h2;have hn:=eB h2.2;have e2:(t.words++([wW lR]++ [wW nm.data.toList]))++r=t.words++(wW lR::wW nm.data.toList::r):=by simp
  rw[e2,ag (my rt (rP (Jt (ks:=[lR]) Tae _) Tab 0)),mF (dz _),if_pos rfl,ag (eA hn r)];rfl
theorem PM{x:Tr×Bool}(h:(jq x).isSome=true) {r:aI}(hr:Ends 0 r)(ha:ar lZ r=false):lu (rO x++r)=.ok (x,r):=by
 obtain⟨t,d⟩:=x;unfold jq at h;rw[aH,Bool.and_eq_true] at h;have rt:=oK h.1;unfold rO lu;cases d
 ·simp only[Bool.false_eq_true,if_false,append_nil];rw[ag (my rt hr),mz ha];rfl
 ·simp only[if_true,append_assoc,cons_append,nil_append];rw[ag (my rt (rP (Jt (ks:=[lZ]) Tae _) Tab 0)),mF (dz _)];rfl
variable{word:aV}
theorem Ml(h:(eh word l).isSome=true):l=[]\/∃t,l=[t]/\Rd t:=by
 unfold eh at h;rw[aH,aZ,Bool.and_eq_true,decide_eq_true_eq] at h
 match l,h with
 | [],_=>exact .inl rfl
 | [t],h=>have h2:=h.2;rw[aH,Bool.and_eq_true] at h2;exact .inr ⟨t,rfl,oK h2.2⟩
 | _::_::_,h=>have:=h.1;simp at this
theorem pC{w:aV} (h:(eh word l).isSome=true)  {r:aI}(hr:Tl ks r)(hw:w∉ks)(hk:Js ks=true):gR w (fP w l++r)=.ok (l,r):=by
 unfold gR;rcases Ml h with rfl |⟨t,rfl,rt⟩
 ·show(may w >>= _) r=_;rw[mz (lM hr hw)];rfl
 ·show(may w >>= _) (wW w::(t.words++r))=_;rw[mF (dz _),if_pos rfl,ag (my rt (rP hr hk 0))];rfl
theorem zP{w:aV}   {r:aI}(hr:Tl ks r):Tl (w::ks) (fP w l++r):=by
 cases l with
 | nil=>exact hr.more w
 | cons t l=>exact⟨_,_,rfl,.inr ⟨w,by simp,rfl⟩⟩
variable{a b:aV}
theorem Ru{l:List aI}  {r:aI}(hr:Tl ks r):Tl (a::ks) (rZ ([wW a]++ [wW b]) l++r):=by
 unfold rZ;split
 ·exact hr.more a
 ·exact⟨_,_,rfl,.inr ⟨a,by simp,rfl⟩⟩
theorem G7{l:List Int}  {r:aI}(hr:Tl ks r):Tl (jd::ks) (wK l++r):=by
 cases l with
 | nil=>exact hr.more _
 | cons n l=>exact⟨_,_,rfl,.inr ⟨_,by simp,rfl⟩⟩
variable{lead:aV}{f:α->Option aV}
theorem Gt{l:List α}(h:(iP lead (l.map f)).isSome=true):∀x∈l,(f x).isSome=true:=λ x hx=>zI h _ (List.mem_map.2 ⟨x,hx,rfl⟩)
theorem PN(h:(iP lead (l.map Tr.whole)).isSome=true)  {r:aI}(hr:Tl ks r)(hw:iz∉ks)(hk:Js ks=true)(hc:bk∉ks):ry (rZ ([wW iz]++ [wW mO]) (l.map Tr.words)++r)=.ok (l,r):=by
 unfold ry rZ
 match l,h with
 | [],_=>show(may iz >>= _) r=_;rw[mz (lM hr hw)];rfl
 | t::l,h=>rw[if_neg Tae];show(may iz >>= _) (wW iz::wW mO::(df ((t::l).map Tr.words)++r))=_;rw[mF (dz _),if_pos rfl,ag (cq (dz _))];exact DK Tae (λ x hx=>oK (Gt h x hx)) (rP hr hk 0) (lM hr hc)
theorem Mm{l:List (Tr×Bool)}(h:(iP lead (l.map jq)).isSome=true)  {r:aI}(hr:Tl ks r)(hw:iB∉ks)(hk:Js ks=true)(hc:bk∉ks)(hd:lZ∉ks):nA (rZ ([wW iB]++ [wW mO]) (l.map rO)++r)=.ok (l,r):=by
 unfold nA rZ
 match l,h with
 | [],_=>show(may iB >>= _) r=_;rw[mz (lM hr hw)];rfl
 | t::l,h=>rw[if_neg Tae];show(may iB >>= _) (wW iB::wW mO::(df ((t::l).map rO)++r))=_;rw[mF (dz _),if_pos rfl,ag (cq (dz _))];exact nU mQ (E:=λ r=>Ends 0 r/\ar lZ r=false) (λ l=>⟨rQ l 0,rfl⟩) ⟨rP hr hk 0,lM hr hd⟩ (lM hr hc) Tae λ x hx r hr=>PM (Gt h x hx) hr.1 hr.2
theorem PO{l:List Int}(h:(za l).isSome=true)  {r:aI}(hr:Tl ks r)(hw:jd∉ks):sZ (wK l++r)=.ok (l,r):=by
 unfold za at h;rw[aH,aZ,Bool.and_eq_true,decide_eq_true_eq] at h;unfold sZ
 match l,h with
 | [],_=>show(may jd >>= _) r=_;rw[mz (lM hr hw)];rfl
 | [n],_=>show(may jd >>= _) (wW jd::nW n::r)=_;rw[mF (dz _),if_pos rfl,ag (qN n r)];rfl
 | _::_::_,h=>have:=h.1;simp at this
theorem DL{q:Qu}(h:(jr q).isSome=true) {r:aI}(hr:Tl [] r):cY (lL q++r)=.ok (q,r):=by
 unfold jr at h;simp only[aH,Bool.and_eq_true] at h;obtain⟨-,hi, -, -,hn,hw,hg,hh,ho,hl⟩:=h;have hn:=eB hn;have T1:Tl [jd] (wK q.aG++r):=G7 hr;have T2:=Ru (a:=iB) (b:=mO) (l:=q.order.map rO) T1;have T3:=zP (w:=mP) (l:=q.having) T2;have T4:=Ru (a:=iz) (b:=mO) (l:=q.group.map Tr.words) T3;have T5:=zP (w:=dh) (l:=q.aR) T4;have e:lL q++r=wW cX::((if q.items.length=0 then [sW [42]] else df (q.items.map xW))++(wW cu::((if q.only then [wW jo] else [])++(wW q.aK.data.toList::(fP dh q.aR++(rZ ([wW iz]++ [wW mO]) (q.group.map Tr.words)++(fP mP q.having++(rZ ([wW iB]++ [wW mO]) (q.order.map rO)++(wK q.aG++r))))))))):=by unfold lL Rs;simp only[append_assoc,cons_append,nil_append]
 rw[e];unfold cY;rw[ag (cq (dz _))]
 have items:∀l,sY ((if q.items.length=0 then [sW [42]] else df (q.items.map xW))++(wW cu::l))=.ok (q.items,wW cu::l):=by
  intro l;unfold sY
  match hq:q.items,hi with
  | [],_=>show(may fe >>= _) (sW [42]::(wW cu::l))=_;rw[mF rfl];rfl
  | x::xs,hi=>
    rw[if_neg Tae] at hi ⊢;have hsome:=λ y hy=>ik _ hi (pd y) (List.mem_map.2 ⟨y,hy,rfl⟩)
    have hx:=hsome x Tae;have rx:Rd x.1:=by unfold pd at hx;rw[aH,Bool.and_eq_true] at hx;exact oK hx.1
    obtain⟨d,tl,ed,hd⟩:=rx.th;obtain⟨t2,e2⟩:=Vi xW (x:=x) (l:=xs) (h:=d) (tl:=tl++(if x.2.toList=[] then [] else [wW lR]++ [wW x.2.data.toList])) (by unfold xW;rw[ed];rfl);rw[mz (by rw[e2];exact hd),if_neg Tab];have F:Tl [cu] (wW cu::l):=Jt Tae l;exact nU mg (E:=λ r=>Ends 0 r/\ar lR r=false) (λ l=>⟨rQ l 0,rfl⟩) ⟨rP F Tab 0,lM F Tab⟩ (lM F Tab) Tae λ y hy r hr=>Vj (hsome y hy) hr.1 hr.2
 rw[ag (items _),ag (cq (dz _))]
 have only:∀(l:aI) {α:Type} (f:Bool->Ps α),(may jo >>= f) ((if q.only then [wW jo] else [])++(wW q.aK.data.toList::l))=f q.only (wW q.aK.data.toList::l):=by
  intro l α f;cases q.only
  ·exact mz (G6 hn Tab l) f
  ·exact mF (dz _) f _
 rw[only,ag (eA hn _),ag (pC hw T4 Tab Tab),ag (PN hg T3 Tab Tab Tab),ag (pC hh T2 Tab Tab),ag (Mm ho T1 Tab Tab Tab Tab),ag (PO hl hr Tae)];rfl
abbrev TB:=aV×Bool
def tb (x:TB):Option aV:=if x.2 then some x.1 else none
theorem agn{q:Qu}(h:R4 q=true):q= {}:=by obtain⟨items,aK,only,aR,group,having,order,aG⟩:=q;unfold R4 at h;simp only[Bool.and_eq_true,decide_eq_true_eq,beq_iff_eq,Bool.not_eq_true'] at h;obtain⟨h1,h2,h3⟩:=h;have e1:items=[]:=List.length_eq_zero_iff.1 Taa;have e2:aR=[]:=List.length_eq_zero_iff.1 Taa;have e3:group=[]:=List.length_eq_zero_iff.1 Taa;have e4:having=[]:=List.length_eq_zero_iff.1 Taa;have e5:order=[]:=List.length_eq_zero_iff.1 Taa;have e6:aG=[]:=List.length_eq_zero_iff.1 Taa;rw[e1,e2,e3,e4,e5,e6,MR h2,h3]
structure alT (s:St) (c q j w e r u h t:Bool):Prop where
 c:c=true\/s.aJ=[]/\s.time=ByteArray.empty/\s.space=ByteArray.empty/\s.parts=0
 e:e=true\/s.every=0
 q:q=true\/s.query= {}
 w:w=true\/s.what=0
 j:j=true\/s.cr=ByteArray.empty/\s.a=0/\s.b=0
 r:r=true\/s.rows=[]
 u:u=true\/s.aS=[]
 h:h=true\/s.aR=[]
 t:t=true\/s.aK=ct/\s.cP=ct
variable{s:St}
theorem ek{c q j w e r u h t:Bool}(hl:dJ s c q j w e r u h t=true):alT s c q j w e r u h t:=by unfold dJ at hl;simp only[Bool.and_eq_true,Bool.or_eq_true,beq_iff_eq] at hl;obtain⟨⟨⟨⟨⟨⟨⟨⟨l1,l2⟩,l3⟩,l4⟩,l5⟩,l6⟩,l7⟩,l8⟩,l9⟩:=hl;exact⟨l1.imp id λ x=>⟨List.length_eq_zero_iff.1 x.1.1.1,MR x.1.1.2,MR x.1.2,x.2⟩,l2,l3.imp id agn,l4,l5.imp id λ x=>⟨MR x.1.1,x.1.2,x.2⟩,l6.imp id List.length_eq_zero_iff.1,l7.imp id List.length_eq_zero_iff.1,l8.imp id List.length_eq_zero_iff.1,l9.imp id λ x=>⟨zM x.1,zM x.2⟩⟩
theorem no{p:Prop}(h:false=true\/p):p:=h.resolve_left Tab
theorem ago (l:aI):Tl [] (eT::l):=agm l
theorem agp{c:ByteArray×Int}(h:(Eu c).isSome=true)(r:aI):iD (Jr c++r)=.ok (c,r):=by
 obtain⟨nm,t⟩:=c;unfold Eu at h;simp only[aH,aZ,Bool.and_eq_true,decide_eq_true_eq] at h;obtain⟨hn,⟨h1,h2⟩, -⟩:=h;unfold iD Jr;show(cD >>= _) (wW nm.data.toList::wW (G5 t)::r)=_;rw[ag (eA (eB hn) _)];have:t=1\/t=2\/t=3:=by omega
 rcases this with rfl | rfl | rfl <;> rfl
theorem agq{x:ByteArray×Tr}(h:(Cn x).isSome=true) {r:aI}(hr:Ends 0 r):xh (Dg x++r)=.ok (x,r):=by
 obtain⟨nm,t⟩:=x;unfold Cn at h;simp only[aH,Bool.and_eq_true] at h;obtain⟨hn, -,ht⟩:=h;unfold xh Dg;have e:([wW nm.data.toList]++([sW [61]]++t.words))++r=wW nm.data.toList::sW [61]::(t.words++r):=by simp
 dsimp only;rw[e,ag (eA (eB hn) _),ag (cq rfl),ag (my (oK ht) hr)];rfl
theorem agr(h:(AE l).isSome=true)(r:aI):td (EU l++r)=.ok (l,r):=by
 unfold AE at h;simp only[aH,Bool.and_eq_true] at h;obtain⟨-,hl, -⟩:=h;have hne:l≠ []:=by rintro rfl;cases hl
 have e:EU l++r=sW [40]::(df (l.map Tr.words)++(sW [41]::r)):=by unfold EU;simp
 unfold td;rw[e,ag (cq rfl),ag (DK hne (λ t ht=>oK (ik _ hl _ (List.mem_map.2 ⟨t,ht,rfl⟩))) (rL r 0) rfl),ag (cq rfl)];rfl
variable{v:Val}
theorem G8(h:(xi v).isSome=true)(r:aI):ve (zO v++r)=.ok (v,r):=by
 unfold xi at h;simp only[aH,aZ,Bool.and_eq_true] at h;obtain⟨hb,hg, -⟩:=h;obtain⟨k,n,s⟩:=v;simp only[Bool.or_eq_true,Bool.and_eq_true,beq_iff_eq,decide_eq_true_eq] at hb;unfold good at hg;dsimp only at hb hg;unfold zO ve;dsimp only;by_cases h0:k=0
 ·rw[if_pos h0] at hg ⊢;simp only[Bool.and_eq_true,beq_iff_eq,rk] at hg;rw[h0,hg.1,MR hg.2];rfl
 ·obtain⟨h2,hn⟩:=hb.resolve_left h0;subst h2;rw[if_neg Taa,if_neg Taa,if_pos rfl] at hg;simp only[rk,beq_iff_eq] at hg;rw[if_neg Taa,MR hg];by_cases vX:n < 0
  ·rw[if_pos vX];show(may bK >>= _) (sW [45]::nW (-n)::r)=_;rw[mz rfl,if_neg Tab];show(may dB >>= _) (sW [45]::nW (-n)::r)=_;rw[mF rfl,ag (qN _ _)];show(Except.ok ((⟨2,if true=true then - -n else -n,ByteArray.empty⟩:Val),r):Except Nat (Val×aI))=_;rw[if_pos rfl,Int.neg_neg]
  ·rw[if_neg vX];show(may bK >>= _) (nW n::r)=_;rw[mz rfl,if_neg Tab];show(may dB >>= _) (nW n::r)=_;rw[mz rfl,ag (qN _ _)];rfl
theorem Ju{l:List α}(h:(dC (l.map f)).isSome=true):l≠ []:=by rintro rfl;cases h
theorem uY{l:List α}(h:(dC (l.map f)).isSome=true):l.length<=64:=by unfold dC at h;rw[aH,aZ,Bool.and_eq_true,Bool.and_eq_true,length_map,decide_eq_true_eq,decide_eq_true_eq] at h;exact h.1.2
theorem Vk (l:aI):kP [cz,dt,iu] (wW cz::l)=.ok (cz,l):=rfl
theorem G9 (l:aI):kP [cz,dt,iu] (wW dt::l)=.ok (dt,l):=rfl
theorem abd (l:aI):kP [cz,dt,iu] (wW iu::l)=.ok (iu,l):=rfl
theorem PQ(hk:s.kind=1)(h:(og s).isSome=true)(r:aI):mA ([wW cz]++([wW s.name.data.toList]++([sW [40]]++(df (s.aJ.map Jr)++([sW [41]]++ [wW lp]++([wW s.time.data.toList]++([wW cj]++([nW s.every]++(if s.space.toList=[] then [] else [wW jD]++([wW s.space.data.toList]++([wW fc]++ [nW s.parts]))))))))))++(eT::r))=.ok (s,eT::r):=by
 unfold og at h;simp only[aH,aZ,Bool.and_eq_true] at h;obtain⟨hl, -,hn, -,hc, -,ht, -,he,hsp⟩:=h;have li:=ek hl;have e:∀X:aI,[wW cz]++([wW s.name.data.toList]++([sW [40]]++(df (s.aJ.map Jr)++([sW [41]]++ [wW lp]++([wW s.time.data.toList]++([wW cj]++([nW s.every]++X)))))))++(eT::r)=wW cz::wW s.name.data.toList::sW [40]::(df (s.aJ.map Jr)++(sW [41]::wW lp::wW s.time.data.toList::wW cj::nW s.every::(X++(eT::r)))):=by intro X;simp
 rw[e];unfold mA;rw[ag (Vk _),if_pos rfl];unfold Hu
 have aJ:dI iD (df (s.aJ.map Jr)++(sW [41]::wW lp::wW s.time.data.toList::wW cj::nW s.every::((if s.space.toList=[] then [] else [wW jD]++([wW s.space.data.toList]++([wW fc]++ [nW s.parts])))++(eT::r))))=.ok (s.aJ,_):=
  nU nC (E:=λ _=>True) (λ _=>trivial) trivial rfl (Ju hc) λ x hx r _=>agp (ik _ hc _ (List.mem_map.2 ⟨x,hx,rfl⟩)) r
 have sp:yY ((if s.space.toList=[] then [] else [wW jD]++([wW s.space.data.toList]++([wW fc]++ [nW s.parts])))++(eT::r))=.ok ((s.space,s.parts),eT::r):=by
  unfold yY;by_cases es:s.space.toList=[]
  ·rw[if_pos es] at hsp ⊢;rw[aZ,beq_iff_eq] at hsp;show(may jD >>= _) (eT::r)=_;rw[mz rfl,hsp,MR es];rfl
  ·rw[if_neg es] at hsp ⊢;simp only[aH,Bool.and_eq_true] at hsp;show(may jD >>= _) (wW jD::wW s.space.data.toList::wW fc::nW s.parts::(eT::r))=_;rw[mF (dz _),if_pos rfl,ag (eA (eB hsp.2.1) _),ag (cq (dz _)),ag (qN _ _)];rfl
 rw[ag (eA (eB hn) _),ag (cq rfl),ag aJ,ag (cq rfl),ag (cq (dz _)),ag (eA (eB ht) _),ag (cq (dz _)),ag (qN _ _),ag sp];obtain⟨kind,name,cs,time,every,space,parts,query,what,cr,a,b,rows,aS,aR,aK,cP⟩:=s;have l1:=no li.q;have l2:=no li.w;have l3:=no li.j;have l4:=no li.r;have l5:=no li.u;have l6:=no li.h;have l7:=no li.t;dsimp only at hk l1 l2 l3 l4 l5 l6 l7;obtain⟨m1,m2,m3⟩:=l3;obtain⟨m4,m5⟩:=l7;subst hk l1 l2 m1 m2 m3 l4 l5 l6 m4 m5;rfl
theorem I3(hk:s.kind=3)(h:(Co s).isSome=true)(r:aI):mA ([wW iu]++([wW s.name.data.toList]++([wW (wL s.what)]++([wW s.cr.data.toList]++((if s.what=9 then [wW cu]++([nW s.a]++([wW Ci]++ [nW s.b]))else [wW eV]++ [nW s.a])++([wW cj]++ [nW s.every])))))++(eT::r))=.ok (s,eT::r):=by
 unfold Co at h;simp only[aH,aZ,Bool.and_eq_true] at h;obtain⟨hl, -,hn,hj, -,ho,hab, -,he⟩:=h;have li:=ek hl
 have hw:s.what=9\/s.what=10\/s.what=12:=by
  unfold xj at hj;by_cases e:s.what=9
  ·exact .inl e
  by_cases e2:s.what=10
  ·exact .inr (.inl e2)
  by_cases e3:s.what=12
  ·exact .inr (.inr e3)
  ·simp[e,e2,e3] at hj
 have e:∀X:aI,[wW iu]++([wW s.name.data.toList]++([wW (wL s.what)]++([wW s.cr.data.toList]++(X++([wW cj]++ [nW s.every])))))++(eT::r)=wW iu::wW s.name.data.toList::wW (wL s.what)::wW s.cr.data.toList::(X++(wW cj::nW s.every::(eT::r))):=by intro X;simp
 rw[e];unfold mA;rw[ag (abd _),if_neg Tab,if_neg Tab];unfold SG;have any:∀l,kP [bZ,bP,fY] (wW (wL s.what)::l)=.ok (wL s.what,l):=by intro l;unfold wL;rcases hw with e | e | e <;> rw[e] <;> rfl
 have ab:Cj (wL s.what) ((if s.what=9 then [wW cu]++([nW s.a]++([wW Ci]++ [nW s.b]))else [wW eV]++ [nW s.a])++(wW cj::nW s.every::(eT::r)))=.ok ((s.a,s.b),wW cj::nW s.every::(eT::r)):=by
  unfold Cj wL;by_cases e9:s.what=9
  ·rw[if_pos e9,if_pos rfl,if_pos e9];rfl
  ·rw[if_neg e9] at hab ⊢;rw[aH,aZ,Bool.and_eq_true,beq_iff_eq] at hab;have hk2:¬(if s.what=10 then bP else fY)=bZ:=by split <;> decide
   rw[if_neg hk2,if_neg e9,hab.1];rfl
 rw[ag (eA (eB hn) _),ag (any _),ag (eA (eB ho) _),ag ab,ag (cq (dz _)),ag (qN _ _)];have I4:(if wL s.what=bZ then(9:Int)else if wL s.what=bP then 10 else 12)=s.what:=by unfold wL;rcases hw with e | e | e <;> rw[e] <;> rfl
 show(Except.ok (({ kind:=3,name:=s.name,what:=if wL s.what=bZ then 9 else if wL s.what=bP then 10 else 12,cr:=s.cr,a:=s.a,b:=s.b,every:=s.every }:St),eT::r):Except Nat (St×aI))=_;rw[I4];obtain⟨kind,name,cs,time,every,space,parts,query,what,cr,a,b,rows,aS,aR,aK,cP⟩:=s;have l0:=no li.c;have l1:=no li.q;have l4:=no li.r;have l5:=no li.u;have l6:=no li.h;have l7:=no li.t;dsimp only at hk l0 l1 l4 l5 l6 l7;obtain⟨m0,m1,m2,m3⟩:=l0;obtain⟨m4,m5⟩:=l7;subst hk l1 m0 m1 m2 m3 l4 l5 l6 m4 m5;rfl
theorem zel.Ka6(h:p:=by have l4:=no li.r;have l5:=no li.u;have l6:=no li.h;have l7:=no li.t;dsimp only at h2 l0 l1 l2 l3 l4 l5 l6 l7;obtain⟨m0,m1,m2,m3⟩:=l0;obtain⟨m6,m7,m8⟩:=l3;obtain⟨m4,m5⟩:=l7;subst h2 l1 l2 m0 m1 m2 m3 m6 m7 m8 l4 l5 l6 m4 m5;rfl):p:=h
theorem zem.Ka6(h:p:=by have l4:=no li.q;have l5:=no li.u;have l6:=no li.h;have l7:=no li.t;dsimp only at h5 l0 l1 l2 l3 l4 l5 l6 l7;obtain⟨m0,m1,m2,m3⟩:=l0;obtain⟨m6,m7,m8⟩:=l3;obtain⟨m4,m5⟩:=l7;subst h5 l1 l2 m0 m1 m2 m3 m6 m7 m8 l4 l5 l6 m4 m5;rfl):p:=h
theorem zen.Ka6(h:p:=by have l4:=no li.q;have l5:=no li.r;have l7:=no li.t;dsimp only at h6 l0 l1 l2 l3 l4 l5 l7;obtain⟨m0,m1,m2,m3⟩:=l0;obtain⟨m6,m7,m8⟩:=l3;obtain⟨m4,m5⟩:=l7;subst h6 l1 l2 m0 m1 m2 m3 m6 m7 m8 l4 l5 m4 m5;rfl):p:=h
theorem zeo.Ka6(h:p:=by have l4:=no li.q;have l5:=no li.r;have l6:=no li.u;have l7:=no li.t;dsimp only at h7 l0 l1 l2 l3 l4 l5 l6 l7;obtain⟨m0,m1,m2,m3⟩:=l0;obtain⟨m6,m7,m8⟩:=l3;obtain⟨m4,m5⟩:=l7;subst h7 l1 l2 m0 m1 m2 m3 m6 m7 m8 l4 l5 l6 m4 m5;rfl):p:=h
theorem zep.Ka6(h:p:=by have l4:=no li.r;have l5:=no li.u;have l6:=no li.h;have l7:=no li.t;have l8:=MR QF;dsimp only at h8 l0 l1 l2 l3 l4 l5 l6 l7 l8;obtain⟨m0,m1,m2,m3⟩:=l0;obtain⟨m6,m7,m8⟩:=l3;obtain⟨m4,m5⟩:=l7;subst h8 l1 l2 m0 m1 m2 m3 m6 m7 m8 l4 l5 l6 m4 m5 l8;rfl):p:=h
theorem zeq.Ka6(h:p:=by have l4:=no li.q;have l5:=no li.r;have l6:=no li.u;have l7:=no li.h;dsimp only at l0 l1 l2 l3 l4 l5 l6 l7;obtain⟨m0,m1,m2,m3⟩:=l0;obtain⟨m6,m7,m8⟩:=l3;subst l1 l2 m0 m1 m2 m3 m6 m7 m8 l4 l5 l6 l7;rfl):p:=h
theorem Vl(h:(cF s).isSome=true)(r:aI):cf (DJ s++(eT::r))=.ok (s,eT::r):=by
 have T:Tl [] (eT::r):=ago r;unfold cF at h;unfold DJ;by_cases h1:s.kind=1
 ·rw[if_pos h1] at h ⊢;have:=PQ h1 h r;exact Zf8
 rw[if_neg h1] at h ⊢;by_cases h3:s.kind=3
 ·rw[if_pos h3] at h ⊢;have:=I3 h3 h r;exact Zf8
 rw[if_neg h3] at h ⊢;by_cases h2:s.kind=2
 ·rw[if_pos h2] at h ⊢;simp only[aH,aZ,Bool.and_eq_true] at h;obtain⟨hl, -,hn, -,hq⟩:=h;have li:=ek hl;have e:([wW fj]++ [wW dt]++([wW s.name.data.toList]++([wW lR]++lL s.query)))++(eT::r)=wW fj::wW dt::wW s.name.data.toList::wW lR::(lL s.query++(eT::r)):=by simp
  rw[e];show mA (wW dt::wW s.name.data.toList::wW lR::(lL s.query++(eT::r)))=_;unfold mA;rw[ag (G9 _),if_neg Tab,if_pos rfl];unfold abU;rw[ag (eA (eB hn) _),ag (cq (dz _)),ag (DL hq T)];open zel in exact ZbL
 rw[if_neg h2] at h ⊢;by_cases h4:s.kind=4
 ·rw[if_pos h4] at h ⊢;simp only[aH,aZ,Bool.and_eq_true] at h;obtain⟨⟨hd,hl⟩, -,hn⟩:=h;have li:=ek hl
  have hw:s.what=1\/s.what=2\/s.what=3:=by
   unfold pY at hd;by_cases e:s.what=1
   ·exact .inl e
   by_cases e2:s.what=2
   ·exact .inr (.inl e2)
   by_cases e3:s.what=3
   ·exact .inr (.inr e3)
   ·simp[e,e2,e3] at hd
  show Qi (wW (nk s.what)::wW s.name.data.toList::(eT::r))=_;have any:∀l,kP [cz,dt,iu] (wW (nk s.what)::l)=.ok (nk s.what,l):=by intro l;unfold nk;rcases hw with e | e | e <;> rw[e] <;> rfl
  unfold Qi;rw[ag (any _),ag (eA (eB hn) _)];have I4:(if nk s.what=cz then(1:Int)else if nk s.what=dt then 2 else 3)=s.what:=by unfold nk;rcases hw with e | e | e <;> rw[e] <;> rfl
  show(Except.ok (({ kind:=4,what:=if nk s.what=cz then 1 else if nk s.what=dt then 2 else 3,name:=s.name }:St),eT::r):Except Nat (St×aI))=_;rw[I4];obtain⟨kind,name,cs,time,every,space,parts,query,what,cr,a,b,rows,aS,aR,aK,cP⟩:=s;have l0:=no li.c;have l1:=no li.e;have l2:=no li.q;have l3:=no li.j;have l4:=no li.r;have l5:=no li.u;have l6:=no li.h;have l7:=no li.t;dsimp only at h4 l0 l1 l2 l3 l4 l5 l6 l7;obtain⟨m0,m1,m2,m3⟩:=l0;obtain⟨m6,m7,m8⟩:=l3;obtain⟨m4,m5⟩:=l7;subst h4 l1 l2 m0 m1 m2 m3 m6 m7 m8 l4 l5 l6 m4 m5;rfl
 rw[if_neg h4] at h ⊢;by_cases h5:s.kind=5
 ·rw[if_pos h5] at h ⊢;simp only[aH,aZ,Bool.and_eq_true] at h;obtain⟨hl, -,hn, -,hr⟩:=h;have li:=ek hl;have e:([wW gY]++ [wW fc]++([wW s.name.data.toList]++([wW iO]++df (s.rows.map EU))))++(eT::r)=wW gY::wW fc::wW s.name.data.toList::wW iO::(df (s.rows.map EU)++(eT::r)):=by simp
  rw[e];show Bh (wW fc::wW s.name.data.toList::wW iO::(df (s.rows.map EU)++(eT::r)))=_;unfold Bh
  have rows:dI td (df (s.rows.map EU)++(eT::r))=.ok (s.rows,eT::r):=
   nU zf (E:=λ _=>True) (λ _=>trivial) trivial rfl (Ju hr) λ x hx r _=>agr (ik _ hr _ (List.mem_map.2 ⟨x,hx,rfl⟩)) r
  rw[ag (cq (dz _)),ag (eA (eB hn) _),ag (cq (dz _)),ag rows];open zem in exact ZbL
 rw[if_neg h5] at h ⊢;by_cases h6:s.kind=6
 ·rw[if_pos h6] at h ⊢;simp only[aH,aZ,Bool.and_eq_true] at h;obtain⟨hl, -,hn, -,hr,hb⟩:=h;have li:=ek hl;have e:([wW gw]++([wW s.name.data.toList]++([wW rS]++(df (s.aS.map Dg)++fP dh s.aR))))++(eT::r)=wW gw::wW s.name.data.toList::wW rS::(df (s.aS.map Dg)++(fP dh s.aR++(eT::r))):=by simp
  rw[e];show Bi (wW s.name.data.toList::wW rS::(df (s.aS.map Dg)++(fP dh s.aR++(eT::r))))=_;unfold Bi;have TB:=zP (w:=dh) (l:=s.aR) T
  have aS:dI xh (df (s.aS.map Dg)++(fP dh s.aR++(eT::r)))=.ok (s.aS,fP dh s.aR++(eT::r)):=
   nU Fz (E:=λ r=>Ends 0 r) (λ l=>rQ l 0) (rP TB Tab 0) (lM TB Tab) (Ju hr) λ x hx r hE=>agq (ik _ hr _ (List.mem_map.2 ⟨x,hx,rfl⟩)) hE
  rw[ag (eA (eB hn) _),ag (cq (dz _)),ag aS,ag (pC hb T Tae Tab)];open zen in exact ZbL
 rw[if_neg h6] at h ⊢;by_cases h7:s.kind=7
 ·rw[if_pos h7] at h ⊢;simp only[aH,aZ,Bool.and_eq_true] at h;obtain⟨hl, -,hn,hb⟩:=h;have li:=ek hl;have e:([wW gy]++ [wW cu]++([wW s.name.data.toList]++fP dh s.aR))++(eT::r)=wW gy::wW cu::wW s.name.data.toList::(fP dh s.aR++(eT::r)):=by simp
  rw[e];show Bj (wW cu::wW s.name.data.toList::(fP dh s.aR++(eT::r)))=_;unfold Bj;rw[ag (cq (dz _)),ag (eA (eB hn) _),ag (pC hb T Tae Tab)];open zeo in exact ZbL
 rw[if_neg h7] at h ⊢;by_cases h8:s.kind=8
 ·rw[if_pos h8] at h ⊢;simp only[aH,aZ,Bool.and_eq_true,beq_iff_eq] at h;obtain⟨⟨hl,QF⟩,hq⟩:=h;have li:=ek hl;have hq2:=DL hq T;have e:lL s.query++(eT::r)=wW cX::((lL s.query).tail++(eT::r)):=rfl;rw[e] at hq2 ⊢;show Bk (wW cX::((lL s.query).tail++(eT::r)))=_;unfold Bk;rw[ag hq2];open zep in exact ZbL
 rw[if_neg h8] at h ⊢;by_cases h9:9<=s.kind/\s.kind<=12
 ·rw[if_pos h9] at h;simp only[aH,aZ,Bool.and_eq_true] at h;obtain⟨hl, -,hn, -,hf,ht, -⟩:=h;have li:=ek hl;have hk:s.kind=9\/s.kind=10\/s.kind=11\/s.kind=12:=by omega
  have e:([wW ll]++ [wW (mv s.kind)]++ [sW [40]]++([wW s.name.data.toList]++([sW [44]]++((if s.kind=9 then zO s.aK++ [sW [44]] else [])++(zO s.cP++ [sW [41]])))))++(eT::r)=wW ll::wW (mv s.kind)::sW [40]::wW s.name.data.toList::sW [44]::((if s.kind=9 then zO s.aK++ [sW [44]] else [])++(zO s.cP++(sW [41]::(eT::r)))):=by simp
  rw[e];show Qj (wW (mv s.kind)::sW [40]::wW s.name.data.toList::sW [44]::((if s.kind=9 then zO s.aK++ [sW [44]] else [])++(zO s.cP++(sW [41]::(eT::r)))))=_;have any:∀l,kP [bZ,bP,dA,eF] (wW (mv s.kind)::l)=.ok (mv s.kind,l):=by intro l;unfold mv;rcases hk with e | e | e | e <;> rw[e] <;> rfl
  have alU:(if mv s.kind=bZ then(9:Int)else if mv s.kind=bP then 10 else if mv s.kind=dA then 11 else 12)=s.kind:=by unfold mv;rcases hk with e | e | e | e <;> rw[e] <;> rfl
  have aK:∀l,pW s.kind ((if s.kind=9 then zO s.aK++ [sW [44]] else [])++l)=.ok (s.aK,l):=by
   intro l;unfold pW;by_cases e9:s.kind=9
   ·rw[if_pos e9] at hf;rw[if_pos e9,if_pos e9];rw[aH,Bool.and_eq_true] at hf;rw[append_assoc,ag (G8 hf.1 _)];rfl
   ·rw[if_neg e9] at hf;rw[aZ] at hf;rw[if_neg e9,if_neg e9,zM hf];rfl
  unfold Qj;rw[ag (any _)];rw[alU,ag (cq rfl),ag (eA (eB hn) _),ag (cq rfl),ag (aK _),ag (G8 ht _),ag (cq rfl)];open zeq in exact ZbL
 ·rw[if_neg h9] at h;cases h
theorem abe(h:(cF s).isSome=true):s.long=false:=by
 have lq:(jr s.query).isSome=true->s.query.long=false:=by
  intro h;unfold jr at h;simp only[aH,Bool.and_eq_true] at h;obtain⟨-,hi, -, -, -, -,hg, -,ho, -⟩:=h
  have l1:s.query.items.length<=64:=by
   split at hi
   ·omega
   ·exact uY hi
  have lead:∀ {α:Type} {ld:aV} {f:α->Option aV} {l:List α},(iP ld (l.map f)).isSome=true->l.length<=64:=by
   intro α ld f l h;unfold iP at h;split at h
   ·rename_i e;rw[length_map] at e;omega
   ·rw[aH,Bool.and_eq_true] at h;exact uY h.2
  have l2:=lead hg;have l3:=lead ho;unfold Qu.long;simp only[Bool.or_eq_false_iff,decide_eq_false_iff_not];exact⟨⟨by omega,by omega⟩,by omega⟩
 have q0:(({}:Qu).long)=false:=rfl;have fin:s.aJ.length<=64->s.rows.length<=64->(∀r∈s.rows,r.length<=64)->s.aS.length<=64->s.query.long=false->s.long=false:=by intro a b c d e;unfold St.long;simp only[Bool.or_eq_false_iff,decide_eq_false_iff_not,any_eq_false,decide_eq_true_eq];exact⟨⟨⟨⟨by omega,by omega⟩,λ r hr=>by have:=c r hr;omega⟩,by omega⟩,e⟩
 unfold cF at h;split at h
 ·unfold og at h;simp only[aH,aZ,Bool.and_eq_true] at h;have li:=ek h.1;exact fin (uY h.2.2.2.2.1) Tat Tat TaR TaW
 split at h
 ·unfold Co at h;exact ZeT
 split at h
 ·simp only[aH,aZ,Bool.and_eq_true] at h;have li:=ek h.1;exact fin TaE Tat Tat TaR (lq h.2.2.2.2)
 split at h
 ·simp only[aH,aZ,Bool.and_eq_true] at h;have li:=ek h.1.2;exact Zb2
 split at h
 ·simp only[aH,aZ,Bool.and_eq_true] at h;have li:=ek h.1;refine fin TaE (uY h.2.2.2.2) (λ r hr=>?_) TaR TaW;have:=ik _ h.2.2.2.2 _ (List.mem_map.2 ⟨r,hr,rfl⟩);unfold AE at this;simp only[aH,Bool.and_eq_true] at this;exact uY this.2.1
 split at h
 ·simp only[aH,aZ,Bool.and_eq_true] at h;have li:=ek h.1;exact fin TaE Tat Tat (uY h.2.2.2.2.1) TaW
 split at h
 ·exact ZeT
 split at h
 ·simp only[aH,aZ,Bool.and_eq_true] at h;have li:=ek h.1.1;exact fin TaE Tat Tat TaR (lq h.2)
 split at h
 ·exact ZeT
 ·cases h
theorem abf{t:aV}(hlx:Lx kL t (DJ s))(hlen:t.length<=4096)(hsome:(cF s).isSome=true):lz t=.ok s:=by
 obtain⟨ps,hrun,hps⟩:=hlx [] (λ c hc=>by cases hc);have hr:=hrun [] [] (Vd.stop []);rw[append_nil,append_nil] at hr;have arb:=aaU hlen hr rfl;have hw:(ps.map (E5 t.length)++ [PF t.length]).map (·.w)=DJ s++(eT:: []):=by rw[map_append,map_map,<- hps];rfl
 unfold lz;rw[arb];dsimp only;rw[hw];have ags:yZ (DJ s++(eT:: []))=.ok (s,[eT]):=by unfold yZ;rw[ag (Vl hsome []),mz rfl];rfl
 rw[ags];dsimp only;rw[abe hsome,if_neg Tab];have hd:cZ s.exprs=false:=by unfold cZ;rw[any_eq_false];intro x hx;have:=Vc hsome x hx;simp only[decide_eq_true_eq];omega
 rw[hd,if_neg Tab]
theorem PR(hs:s.Lxs) {t:aV}(h:vQ s=(t,0)):lz t=.ok s:=by
 unfold vQ at h
 cases e:cF s with
 | none=>rw[e] at h;cases h
 | some t2=>
   rw[e] at h;unfold pZ at h;dsimp only at h;split at h
   ·cases h
   ·injection h with h1 h2;subst h1;exact abf (abc hs t2 e) Taa (by rw[e];rfl)
end Go.Proofs.YtehhdlgjfdnafaaGreatDoor
