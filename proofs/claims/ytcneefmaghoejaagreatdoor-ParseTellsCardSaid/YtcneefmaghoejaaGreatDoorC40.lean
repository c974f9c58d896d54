/- Parts of the proof. -/
import Derived.Test.YtcneefmaghoejaaGreatDoorCards
import Derived.Test.YtcneefmaghoejaaGreatDoorTie
import Derived.ShutString
import Derived.Test.YtcneefmaghoejaaGreatDoorC37
import Derived.Test.YtcneefmaghoejaaGreatDoorC39
namespace Go.Proofs.YtcneefmaghoejaaGreatDoor
open Go.Lib (hid)
set_option linter.unusedSimpArgs false
set_option linter.unusedVariables false
theorem JI.start {r t q:List UInt8} {ws:List (Wd×Nat)}(h:JI t ws q)(e:bZ false r=bZ false t):JI r ws q:=by
 cases h with
 | stop r'=>rw[← e];exact .stop r
 | step hs ho h=>exact .step (e.trans hs) ho h
theorem JI.append {r q:List UInt8} {ws:List (Wd×Nat)}(h:JI r ws q):∀ {t q2:List UInt8} {ws2:List (Wd×Nat)},q=bZ false t→JI t ws2 q2→JI r (ws++ws2) q2:=by
 induction h with
 | stop r=>intro t q2 ws2 e h2;exact h2.start e
 | step hs ho h ih=>intro t q2 ws2 e h2;exact .step hs ho (ih e h2)
theorem JI.le {r q:List UInt8} {ws:List (Wd×Nat)}(h:JI r ws q):∀x∈ws,x.2≤r.length:=by
 induction h with
 | stop r=>intro x hx;cases hx
 | @step r r1 rest q c w ws hs ho h ih=>
   intro x hx;have h1:=iQ false r;rw[hs] at h1;have h2:=tx ho;rcases List.mem_cons.1 hx with rfl | hx
   ·exact h1
   ·have:=ih x hx;omega
def bO:Wd:=⟨4,[40],0⟩
def bC:Wd:=⟨4,[41],0⟩
def Opn (t:Wd):Prop:=(t.k=1∧t.s∈ [bt,eO,lK,nx,LY,Wm])∨(t.k=4∧t.s∈ [rM,Ez])
def Opd (x:Wd)(s:bH):Prop:=x.k=2∨x.k=3∨(x.k=1∧aaj x.s=true∧av aX s=false)
variable {α β:Type} {n m:Nat}
def Br (n:Nat)(P:Ps α):Prop:=∀(a:bH) (x:Wd) (s:bH) (d:α) (r:bH),a.length+1+s.length≤n→(∃t,a.getLast?=some t∧Opn t)→Opd x s→P (a++x::s)=.ok (d,r)→
 (∃a',a'≠ []∧a'.getLast?=a.getLast?∧r=a'++x::s∧P (a++bO::x::bC::s)=.ok (d,a'++bO::x::bC::s))∨(r <:+ s∧P (a++bO::x::bC::s)=.ok (d,r))
def BxO (n:Nat)(P:Ps α):Prop:=∀(x:Wd) (s:bH) (d:α) (r:bH),1+s.length≤n→Opd x s→P (x::s)=.ok (d,r)→r <:+ s∧P (bO::x::bC::s)=.ok (d,r)
theorem Br.mono {P:Ps α}(h:Br n P)(k:m≤n):Br m P:=fun a x s d r hl=>h a x s d r (by omega)
theorem BxO.mono {P:Ps α}(h:BxO n P)(k:m≤n):BxO m P:=fun x s d r hl=>h x s d r (by omega)
theorem eN {p:Ps α} {f:α→Ps β} {l r:bH} {y:β}(h:(p >>= f) l=.ok (y,r)):∃x m,p l=.ok (x,m)∧f x m=.ok (y,r):=by
 rw[fw] at h;cases e:p l with
 | error n=>rw[e] at h;cases h
 | ok z=>obtain⟨x,m⟩:=z;rw[e] at h;exact⟨x,m,rfl,h⟩
variable {α β:Type} {n m:Nat}
def wK (s:St):Ps St:=do
 let _ ← may jQ
 qV
 return s
open Go.ChangeShapes Go.WideShapes Go.ChangeAt Go.RowKit
def Jy (s:List UInt8):St:=match fO s with
 | .error _=> {}
 | .ok d=>d
def FV (s:List UInt8):Nat:=match fO s with
 | .error (p,_)=>p
 | .ok _=>0
def xO (s:List UInt8):Nat:=match fO s with
 | .error (_,x)=>x
 | .ok _=>0
def YA (s:ByteArray)(w:World)(e:Ending)(w':World):Prop:=
 ∃y:qY,e=.returned (.tuple #[np y,.int .i64 (FV s.data.toList),.int .i64 (xO s.data.toList)])∧(Jy s.data.toList).at_ w' (eD w.heap.size w') y∧Below w.heap.size w w'
theorem NL {s:ByteArray} {w w':World} {e:Ending}(h:fe s w e w'):YA s w e w':=by
 unfold fe at h;unfold YA Jy FV xO;cases hp:fO s.data.toList with
 | error x=>obtain⟨p,x⟩:=x;rw[hp] at h;exact⟨{},h.1,St.fq _ _,h.2⟩
 | ok d=>rw[hp] at h;obtain⟨y,h1,h2,h3⟩:=h;exact⟨y,h1,h2,h3⟩
theorem xe (s:ByteArray)(w:World)(hE:jO w)(hs:s.size≤4294967280):Calls Tryz.prog 10 #[.string s] w (YA s w):=(Lv s w hE hs).mono fun _ _ h=>NL h
theorem Vp (s:ByteArray)(w:World)(hs:s.size≤4294967280):Calls Tryz.prog 11 #[.string s] w (YA s w):=(Jl s w hs).mono fun _ _ h=>NL h
theorem qm:∀ {l:List Tr},(∀t∈l,t.thin)→Tr.ma l
 | [],_=>by unfold Tr.ma;trivial
 | t::l,h=>by unfold Tr.ma;exact⟨h t List.mem_cons_self,qm fun x hx=>h x (List.mem_cons_of_mem _ hx)⟩
theorem Qx {l r:bH} {x:List Int}(h:jo l=.ok (x,r)):x.length≤1:=by
 obtain⟨b,m,_,h⟩:=eN h;split at h
 ·obtain⟨n,m2,_,h⟩:=eN h;injection h with h;injection h with h _;subst h;simp
 ·injection h with h;injection h with h _;subst h;simp
theorem Qy {l r:bH} {q:Qu}(h:cH l=.ok (q,r)):q.cG.length≤1:=by obtain⟨_,_,_,h⟩:=eN h;obtain⟨_,_,_,h⟩:=eN h;obtain⟨_,_,_,h⟩:=eN h;obtain⟨_,_,_,h⟩:=eN h;obtain⟨_,_,_,h⟩:=eN h;obtain⟨_,_,_,h⟩:=eN h;obtain⟨_,_,_,h⟩:=eN h;obtain⟨_,_,_,h⟩:=eN h;obtain⟨_,_,_,h⟩:=eN h;obtain⟨x,m,hx,h⟩:=eN h;injection h with h;injection h with h _;subst h;exact Qx hx
def Lm (p:Ps St):Prop:=∀l d r,p l=.ok (d,r)→d.query.cG.length≤1
theorem ue {α:Type} {p:Ps α} {f:α→Ps St}(h:∀x,Lm (f x)):Lm (p >>= f):=fun l d r e=>by obtain⟨x,m,_,h2⟩:=eN e;exact h x m d r h2
theorem Jz {f:Qu→Ps St}(h:∀q:Qu,q.cG.length≤1→Lm (f q)):Lm (cH >>= f):=fun l d r e=>by obtain⟨x,m,h1,h2⟩:=eN e;exact h x (Qy h1) m d r h2
theorem pj {s:St}(h:s.query.cG.length≤1):Lm (pure s):=fun l d r e=>by injection e with e;injection e with e _;subst e;exact h
theorem T6 {c:Prop} [Decidable c] {p q:Ps St}(hp:Lm p)(hq:Lm q):Lm (if c then p else q):=by
 split
 ·exact hp
 ·exact hq
theorem Qz:Lm fV:=by unfold fV na xW uK;repeat (first | exact pj (by simp)|(exact Jz fun q hq=>pj hq)| refine T6 ?_ ?_ | refine ue fun _=>?_)
theorem YB:Lm vH:=by unfold vH;repeat (first | exact pj (by simp)| refine ue fun _=>?_)
theorem QA:Lm ny:=by unfold ny;repeat (first | exact pj (by simp)| refine ue fun _=>?_)
theorem QB:Lm nz:=by unfold nz;repeat (first | exact pj (by simp)| refine ue fun _=>?_)
theorem QC:Lm nA:=by unfold nA;repeat (first | exact pj (by simp)| refine ue fun _=>?_)
theorem YC:Lm uv:=by unfold uv;repeat (first | exact pj (by simp)| refine ue fun _=>?_)
theorem QD:Lm qD:=Jz fun q hq=>pj hq
theorem FW:Lm aB:=by
 intro l d r h
 match l with
 | []=>cases h
 | t::l=>
   unfold aB at h;simp only at h;split at h
   ·cases h
   split at h
   ·exact QD _ _ _ h
   split at h
   ·exact Qz _ _ _ h
   split at h
   ·exact YB _ _ _ h
   split at h
   ·exact QA _ _ _ h
   split at h
   ·exact QB _ _ _ h
   split at h
   ·exact QC _ _ _ h
   split at h
   ·exact YC _ _ _ h
   ·cases h
theorem Vq:Lm nc:=by
 intro l d r h;obtain⟨d1,m,h1,h2⟩:=eN (p:=aB) (f:=wK) h;obtain⟨_,m2,_,h3⟩:=eN h2;obtain⟨_,m3,_,h4⟩:=eN h3;have hd:d1=d:=by injection h4 with h4;injection h4
 subst hd;exact FW _ _ _ h1
theorem YD {n:Nat} {d:St}(h:ur n d)(hl:d.long=false)(hm0:d.query.cG.length≤1):d.Jm:=by
 obtain⟨h1,h2,h3,h4⟩:=h;unfold St.long Qu.long at hl;simp only[Bool.or_eq_false_iff,decide_eq_false_iff_not,List.any_eq_false] at hl;obtain⟨⟨⟨⟨l1,l2⟩,l3⟩,l4⟩,⟨l5,l6⟩,l7⟩:=hl;have hm:∀t,t∈d.exprs→t.thin:=fun t ht=>(h1 t ht).1
 unfold St.exprs Qu.exprs at hm;simp only[List.mem_append,List.mem_flatten,List.mem_map] at hm;refine⟨by omega,by omega,by omega,by omega,qm fun t ht=>hm t (.inl (.inr ht)),fun r hr=>⟨qm fun t ht=>hm t (.inl (.inl (.inl ⟨r,hr,ht⟩))),?_⟩,fun t ht=>hm _ (.inl (.inl (.inr ⟨t,ht,rfl⟩))),⟨by omega,by omega,by omega,by omega,by omega,by omega,fun t ht=>hm _ (.inr (.inl (.inl (.inl (.inl ⟨t,ht,rfl⟩))))),fun t ht=>hm _ (.inr (.inr ⟨t,ht,rfl⟩)),qm fun t ht=>hm t (.inr (.inl (.inl (.inl (.inr ht))))),qm fun t ht=>hm t (.inr (.inl (.inl (.inr ht)))),qm fun t ht=>hm t (.inr (.inl (.inr ht)))⟩⟩;have:=l3 r hr;simp at this;omega
theorem Vr:St.Jm {}:=by refine⟨by simp,by simp,by simp,by simp,?_,by simp,by simp,⟨by simp,by simp,by simp,by simp,by simp,by simp,by simp,by simp,?_,?_,?_⟩⟩<;>(unfold Tr.ma;trivial)
theorem Vs (s:List UInt8):(Jy s).Jm:=by
 unfold Jy;cases hp:fO s with
 | error x=>exact Vr
 | ok d=>
   unfold fO at hp;split at hp
   ·cases hp
   ·rename_i l hl;split at hp
    ·cases hp
    ·rename_i t r hw;split at hp
     ·cases hp
     ·rename_i uT;split at hp
      ·cases hp
      ·injection hp with hp;subst hp;exact YD (IZ (n:=4097) (by have:=(qR hl).2.1;simpa using this) hw) (by simpa using uT) (Vq _ _ _ hw)
open Go.Shelf
def wkT:Tr:=lI 5 [Ch ⟨#[97]⟩,lI 7 [mJ ⟨2,1,⟨#[]⟩⟩,mJ ⟨2,2,⟨#[]⟩⟩]]
def wk1:St:= { kind:=8,query:= { items:=[(wkT,⟨#[120]⟩)],bw:=⟨#[116]⟩} }
def wk3:St:= { kind:=9,name:=⟨#[118]⟩,bw:=⟨2, -5,⟨#[]⟩⟩}
theorem NM:fO (⟨#[83,69,76,69,67,84,32,97,32,43,32,49,32,42,32,50,32,65,83,32,120,32,70,82,79,77,32,116]⟩:ByteArray).data.toList=.ok wk1:=by kernel_rfl
theorem NN:fO (⟨#[83,69,76,69,67,84,32,97,32,61,32,98,32,61,32,99,32,70,82,79,77,32,116]⟩:ByteArray).data.toList=.error (13,31):=by kernel_rfl
theorem NP:fO (⟨#[67,65,76,76,32,114,101,102,114,101,115,104,40,118,44,32,45,53,44,32,78,85,76,76,41,59]⟩:ByteArray).data.toList=.ok wk3:=by kernel_rfl
set_option maxHeartbeats 4000000
set_option maxRecDepth 100000
theorem En (w:World)(hE:jO w):Calls Tryz.prog 9 #[] w (Ai true w):=by
 have HE:=hid hE;have gI:=hid (Below.refl w.heap.size w);clear hE;go_enter Tryz.func9,Tryz.ntmps9;go_wp2_with fail;refine(xe ⟨#[83,69,76,69,67,84,32,97,32,43,32,49,32,42,32,50,32,65,83,32,120,32,70,82,79,77,32,116]⟩ _ HE.out (by decide)).mono ?_;rintro e w1 ⟨y1,rfl,Vt,b1⟩;have qp:=hid Vt;clear Vt;have cm:=hid (HE.out.later b1);have kX:=hid (ah.then gI.out b1);replace HE:=cm;clear cm;replace gI:=kX;clear kX;clear b1;obtain⟨cs1,xP⟩:∃cs,cs=(cx y1).toArray:=⟨_,rfl⟩;have il:=hid (show(Tryz.prog.info? 35).map (·.size)=some cs1.size by rw[xP];exact cD);have kK:=hid (show dA.size=cs1.size by rw[xP,bP];exact bP _);have jD:=hid (show cs1.all (·.oneCell')=true by rw[xP];exact dI _);have Vu:=hid xP;unfold np;rw[← xP];clear xP;generalize Vv:FV _=pp1;generalize Vw:xO _=px1;have adQ:=hid Vv;have T7:=hid Vw;clear Vv Vw;have YE:=aa w1 (.cells cs1 35);have ry:=hid (au.new w1 35 cs1);go_upto_region 2 with (first
  |(refine wpList_store_row rfl 35 (.tmp 1) (.tmp 13) rfl w1.heap.size cs1 rfl rfl 35 dA (au.new w1 35 dA) il.out kK.out jD.out ?_
    rw[iy]))
 change Code.wp _ _ _ _ (w1.alloc (.cells cs1 35));have cm:=hid (HE.out.later YE);have kX:=hid (ah.then gI.out YE);have jV:=hid (St.at_.keep (cP YE) qp.out);replace HE:=cm;clear cm;replace gI:=kX;clear kX;replace qp:=jV;clear jV;clear YE il kK jD;generalize WD:w1.heap.size=q1 at*;generalize hW:(World.alloc w1 _)=W1 at*;clear hW WD;go_wp2_with fail;refine(xe ⟨#[83,69,76,69,67,84,32,97,32,61,32,98,32,61,32,99,32,70,82,79,77,32,116]⟩ _ HE.out (by decide)).mono ?_;rintro e w2 ⟨y2,rfl,kC,b2⟩;have BV:=hid kC;clear kC;have cm:=hid (HE.out.later b2);have kX:=hid (ah.then gI.out b2);have jV:=hid (St.at_.keep (cP b2) qp.out);have tq:=hid (ry.out.later b2);replace HE:=cm;clear cm;replace gI:=kX;clear kX;replace qp:=jV;clear jV;replace ry:=tq;clear tq;clear b2;obtain⟨FX,xQ⟩:∃cs,cs=(cx y2).toArray:=⟨_,rfl⟩;have il:=hid (show(Tryz.prog.info? 35).map (·.size)=some FX.size by rw[xQ];exact cD);have kK:=hid (show dA.size=FX.size by rw[xQ,bP];exact bP _);have jD:=hid (show FX.all (·.oneCell')=true by rw[xQ];exact dI _);have YF:=hid xQ;unfold np;rw[← xQ];clear xQ;generalize Vx:FV _=pp2;generalize Vy:xO _=px2;have T8:=hid Vx;have T9:=hid Vy;clear Vx Vy;have QE:=aa w2 (.cells FX 35);have zh:=hid (au.new w2 35 FX);go_upto_region 3 with (first
  |(refine wpList_store_row rfl 35 (.tmp 4) (.tmp 18) rfl w2.heap.size FX rfl rfl 35 dA (au.new w2 35 dA) il.out kK.out jD.out ?_
    rw[iy]))
 change Code.wp _ _ _ _ (w2.alloc (.cells FX 35));have cm:=hid (HE.out.later QE);have kX:=hid (ah.then gI.out QE);have jV:=hid (St.at_.keep (cP QE) qp.out);have tq:=hid (ry.out.later QE);have tu:=hid (St.at_.keep (cP QE) BV.out);replace HE:=cm;clear cm;replace gI:=kX;clear kX;replace qp:=jV;clear jV;replace ry:=tq;clear tq;replace BV:=tu;clear tu;clear QE il kK jD;generalize U0:w2.heap.size=q2 at*;generalize hW:(World.alloc w2 _)=W2 at*;clear hW U0;go_wp2_with fail;refine(xe ⟨#[67,65,76,76,32,114,101,102,114,101,115,104,40,118,44,32,45,53,44,32,78,85,76,76,41,59]⟩ _ HE.out (by decide)).mono ?_;rintro e w3 ⟨y3,rfl,adR,b3⟩;have xL:=hid adR;clear adR;have cm:=hid (HE.out.later b3);have kX:=hid (ah.then gI.out b3);have jV:=hid (St.at_.keep (cP b3) qp.out);have tq:=hid (ry.out.later b3);have tu:=hid (St.at_.keep (cP b3) BV.out);have Vz:=hid (zh.out.later b3);replace HE:=cm;clear cm;replace gI:=kX;clear kX;replace qp:=jV;clear jV;replace ry:=tq;clear tq;replace BV:=tu;clear tu;replace zh:=Vz;clear Vz;clear b3;obtain⟨U1,Cw⟩:∃cs,cs=(cx y3).toArray:=⟨_,rfl⟩;have il:=hid (show(Tryz.prog.info? 35).map (·.size)=some U1.size by rw[Cw];exact cD);have kK:=hid (show dA.size=U1.size by rw[Cw,bP];exact bP _);have jD:=hid (show U1.all (·.oneCell')=true by rw[Cw];exact dI _);have adS:=hid Cw;unfold np;rw[← Cw];clear Cw;generalize adT:FV _=pp3;generalize adU:xO _=px3;have amE:=hid adT;have ahR:=hid adU;clear adT adU;have E1:=aa w3 (.cells U1 35);have Q8:=hid (au.new w3 35 U1);go_upto_region 4 with (first
  |(refine wpList_store_row rfl 35 (.tmp 7) (.tmp 23) rfl w3.heap.size U1 rfl rfl 35 dA (au.new w3 35 dA) il.out kK.out jD.out ?_
    rw[iy]))
 change Code.wp _ _ _ _ (w3.alloc (.cells U1 35));have cm:=hid (HE.out.later E1);have kX:=hid (ah.then gI.out E1);have jV:=hid (St.at_.keep (cP E1) qp.out);have tq:=hid (ry.out.later E1);have tu:=hid (St.at_.keep (cP E1) BV.out);have Vz:=hid (zh.out.later E1);have E2:=hid (St.at_.keep (cP E1) xL.out);replace HE:=cm;clear cm;replace gI:=kX;clear kX;replace qp:=jV;clear jV;replace ry:=tq;clear tq;replace BV:=tu;clear tu;replace zh:=Vz;clear Vz;replace xL:=E2;clear E2;clear E1 il kK jD;generalize ahS:w3.heap.size=q3 at*;generalize hW:(World.alloc w3 _)=W3 at*;clear hW ahS;have h1:=qp.out;have h3:=xL.out;have e1:=T7.out;have e2:=T9.out;have e4:=T8.out;have e3:=ahR.out;rw[show Jy _=wk1 by unfold Jy;rw[show fO _=_ from NM]] at h1;rw[show Jy _=wk3 by unfold Jy;rw[show fO _=_ from NP]] at h3;rw[show xO _=0 by unfold xO;rw[show fO _=_ from NM]] at e1;rw[show xO _=31 by unfold xO;rw[show fO _=_ from NN]] at e2;rw[show FV _=13 by unfold FV;rw[show fO _=_ from NN]] at e4;rw[show xO _=0 by unfold xO;rw[show fO _=_ from NP]] at e3;subst e1 e2 e3 e4;have vO:=ry.out;have YG:=Q8.out;rw[Vu.out] at vO;rw[adS.out] at YG;have c7:=vO.cell 7;obtain⟨hn,ys,hr,ha⟩:=h1.query.items;have hlen:=ha.len
 match ys,hlen with
 | [yx],_=>
 obtain⟨ht,si⟩:=jc ha (i:=0) rfl rfl;rcases hr with h0 |⟨b,off,hA,rq,hc⟩
 ·cases h0
 have F6:=rq.2;unfold wkT lI Tr.at_ at ht;obtain⟨t1,t2,t3,t4,t5,ys2,hr2,ha2⟩:=ht;have oU:=Tr.gK.length ha2;rcases hr2 with h0 |⟨b2,fS,bh,oB,hc2⟩
 ·subst h0;simp at oU
 have amF:=oB.2;obtain⟨y0,ysr,rfl,_,ha3⟩:=ha2;obtain⟨yb,amG,rfl,ha4,_⟩:=ha3;unfold Tr.at_ at ha4;have hop:=ha4.1;have B5:=h3.kind;have hf2:=h3.bw;have hf3:=h3.ez;have B5:y3.kind=9:=B5;have hf2:y3.bw=⟨2, -5,⟨#[]⟩⟩:=hf2;have hf3:y3.ez=⟨0,0,⟨#[]⟩⟩:=hf3;have c7':W3.cell? ⟨q1,7,none⟩=some (.slice y1.query.items.A y1.query.items.n y1.query.items.c):=c7;have mA:y1.query.items.n=1:=hn;rw[hA,mA] at c7';generalize y1.query.items.c=ic at c7';obtain⟨⟨xop,xv,VA,LM,xA,xn,xc⟩,xs⟩:=yx;obtain⟨L8,yv,Dq,xB,yA,yn,yc⟩:=yb;have hop:L8=7:=hop;have t1:xop=5:=t1;have bh:xA=some ⟨b2,fS,none⟩:=bh;have t5:xn=2:=t5;have si:xs=⟨#[120]⟩:=si;subst hop t1 bh t5 si;have d0:W3.cell? ⟨q3,0,none⟩=some (.int .u8 y3.kind):=YG.cell 0;have d22:W3.cell? ⟨q3,22,none⟩=some (.int .u8 y3.bw.k):=YG.cell 22;have d23:W3.cell? ⟨q3,23,none⟩=some (.int .i64 y3.bw.n):=YG.cell 23;have d24:W3.cell? ⟨q3,24,none⟩=some (.string y3.bw.s):=YG.cell 24;have d25:W3.cell? ⟨q3,25,none⟩=some (.int .u8 y3.ez.k):=YG.cell 25;have d26:W3.cell? ⟨q3,26,none⟩=some (.int .i64 y3.ez.n):=YG.cell 26;have d27:W3.cell? ⟨q3,27,none⟩=some (.string y3.ez.s):=YG.cell 27;rw[B5] at d0;rw[hf2] at d22 d23 d24;rw[hf3] at d25 d26 d27;have k0:=hc 0 _ 0 _ rfl rfl;have k1:=hc 0 _ 1 _ rfl rfl;have k2:=hc 0 _ 2 _ rfl rfl;have k3:=hc 0 _ 3 _ rfl rfl;have k4:=hc 0 _ 4 _ rfl rfl;have k5:=hc 0 _ 5 _ rfl rfl;have k6:=hc 0 _ 6 _ rfl rfl;have k7:=hc 0 _ 7 _ rfl rfl;have m0:=hc2 1 _ 0 _ rfl rfl;simp only[Nat.zero_mul,Nat.add_zero,Nat.one_mul] at k0 k1 k2 k3 k4 k5 k6 k7 m0;have amI:=ry.out.lt;have amJ:=Q8.out.lt;have HBE:=hid gI.out;clear h1 h3 vO YG c7 ha hc hc2 hlen oU ha4 t2 t3 t4 B5 hf2 hf3 hn hA rq oB qp BV xL ry zh Q8 Vu YF adS HE gI mA;go_upto_region 7 with fail
 change Code.wp _ _ _ _ (W3.alloc (.cells #[.int .u8 5,.int .u8 xv.k,.int .i64 xv.n,.string xv.s,.string VA,.int .i64 LM,.slice (some ⟨b2,fS,none⟩) 2 xc,.string ⟨#[120]⟩] 51));have bn:=aa W3 (.cells #[.int .u8 5,.int .u8 xv.k,.int .i64 xv.n,.string xv.s,.string VA,.int .i64 LM,.slice (some ⟨b2,fS,none⟩) 2 xc,.string ⟨#[120]⟩] 51);have HX:=au.new W3 51 #[.int .u8 5,.int .u8 xv.k,.int .i64 xv.n,.string xv.s,.string VA,.int .i64 LM,.slice (some ⟨b2,fS,none⟩) 2 xc,.string ⟨#[120]⟩];replace d0:=(bn.cell (ay d0)).trans d0;replace d22:=(bn.cell (ay d22)).trans d22;replace d23:=(bn.cell (ay d23)).trans d23;replace d24:=(bn.cell (ay d24)).trans d24;replace d25:=(bn.cell (ay d25)).trans d25;replace d26:=(bn.cell (ay d26)).trans d26;replace d27:=(bn.cell (ay d27)).trans d27;replace m0:=(bn.cell (ay m0)).trans m0;have x0:=HX.cell 0;have x6:=HX.cell 6;have x7:=HX.cell 7;simp only[List.getElem?_toArray,List.getElem?_cons_zero,List.getElem?_cons_succ] at x0 x6 x7;have HBF:=hid (ah.then HBE.out bn);clear bn HX k0 k1 k2 k3 k4 k5 k6 k7 c7';generalize W3.heap.size=q4 at*;generalize W3.alloc _=W4 at*;go_wp2_with fail;go_ret;exact⟨rfl,HBF.out⟩
theorem qq {P:Program} {ops:Array Oper} {rest:List Oper} {o:Oper} {a:Act} {w:World} {Q:Exit→Act→World→Prop}(hw:Region.wanted o (yielded ops a.tmps)=true)(ty:TypeId)(x:Operand)(ho:o.op=.load ty x)
  (g:Nat) (hx:a.eval x=.pointer (some ⟨g,0,none⟩)) (t:TypeId) (cs:Array Value) (fr:Nat×Nat) (d:TypeDesc) (hg:w.heap[g]?=some (.cells cs t fr))
  (hu:P.underlying ty=some d) (hd:(match d with | .struct _ | .array _ _=>true | _=>false)=true) (hi:(P.info? ty).map (·.size)=some cs.size)
  (h:wpList P ops Q rest (a.put o.dst (.agg cs)) w):wpList P ops Q (o::rest) a w:=
 wpList_step fun K hK=>by simp only[hw,if_true];exact wp_load_row ty x ho g hx t cs fr d hg hu hd hi (hK _ _ h)
theorem VB {cs:Array Value} {y:qY}(h:cs=(cx y).toArray):(Tryz.prog.info? 35).map (·.size)=some cs.size:=by rw[h];exact cD
theorem LN {w:World} {B B2:Nat} {d:St} {y z:qY} {cs FX:Array Value}(h1:cs=(cx y).toArray)(h2:FX=(cx z).toArray)(h:d.at_ w (eD B w) y)(k:d.at_ w (eD B2 w) z)(hs:d.Jm):
  Calls Tryz.prog 12 #[.agg cs,.agg FX] w fun e w'=>e=.returned (.bool true)∧Below w.heap.size w w':=by
 rw[h1,h2];exact Qb (fun b hb=>hb.2) (fun b hb=>hb.2) h k hs w (Below.refl _ _)
theorem QF (s:ByteArray)(w:World)(hE:jO w):Calls Tryz.prog 3 #[.string s] w (Ai true w):=by
 by_cases Ot:5000 < s.size
 ·have HE:=hid hE;clear hE;go_enter Tryz.func3,Tryz.ntmps3;go_wp2_with fail;refine(En _ HE.out).mono ?_;rintro e w1 ⟨rfl,b1⟩;go_wp2_with fail;go_ret;exact⟨rfl,b1⟩
 ·have HE:=hid hE;have U8:=hid (show s.size≤4294967280 by omega);have gI:=hid (Below.refl w.heap.size w);clear hE;go_enter Tryz.func3,Tryz.ntmps3;go_wp2_with fail;refine(xe s _ HE.out (U8.out)).mono ?_;rintro e w1 ⟨y1,rfl,Vt,b1⟩;have qp:=hid Vt;clear Vt;have cm:=hid (HE.out.later b1);have kX:=hid (ah.then gI.out b1);replace HE:=cm;clear cm;replace gI:=kX;clear kX;clear b1;obtain⟨cs1,xP⟩:∃cs,cs=(cx y1).toArray:=⟨_,rfl⟩;have il:=hid (show(Tryz.prog.info? 35).map (·.size)=some cs1.size by rw[xP];exact cD);have kK:=hid (show dA.size=cs1.size by rw[xP,bP];exact bP _);have jD:=hid (show cs1.all (·.oneCell')=true by rw[xP];exact dI _);have Vu:=hid xP;unfold np;rw[← xP];clear xP;generalize Vv:FV _=pp1;generalize Vw:xO _=px1;have adQ:=hid Vv;have T7:=hid Vw;clear Vv Vw;have YE:=aa w1 (.cells cs1 35);have ry:=hid (au.new w1 35 cs1);go_upto_region 4 with (first
   |(refine wpList_store_row rfl 35 (.tmp 3) (.tmp 16) rfl w1.heap.size cs1 rfl rfl 35 dA (au.new w1 35 dA) il.out kK.out jD.out ?_
     rw[iy]))
  change Code.wp _ _ _ _ (w1.alloc (.cells cs1 35));have cm:=hid (HE.out.later YE);have kX:=hid (ah.then gI.out YE);have jV:=hid (St.at_.keep (cP YE) qp.out);replace HE:=cm;clear cm;replace gI:=kX;clear kX;replace qp:=jV;clear jV;clear YE il kK jD;generalize WD:w1.heap.size=q1 at*;generalize hW:(World.alloc w1 _)=W1 at*;clear hW WD;go_wp2_with fail;refine(Vp s _ (U8.out)).mono ?_;rintro e w2 ⟨y2,rfl,kC,b2⟩;have BV:=hid kC;clear kC;have cm:=hid (HE.out.later b2);have kX:=hid (ah.then gI.out b2);have jV:=hid (St.at_.keep (cP b2) qp.out);have tq:=hid (ry.out.later b2);replace HE:=cm;clear cm;replace gI:=kX;clear kX;replace qp:=jV;clear jV;replace ry:=tq;clear tq;clear b2;obtain⟨FX,xQ⟩:∃cs,cs=(cx y2).toArray:=⟨_,rfl⟩;have il:=hid (show(Tryz.prog.info? 35).map (·.size)=some FX.size by rw[xQ];exact cD);have kK:=hid (show dA.size=FX.size by rw[xQ,bP];exact bP _);have jD:=hid (show FX.all (·.oneCell')=true by rw[xQ];exact dI _);have YF:=hid xQ;unfold np;rw[← xQ];clear xQ;generalize Vx:FV _=pp2;generalize Vy:xO _=px2;have T8:=hid Vx;have T9:=hid Vy;clear Vx Vy;have QE:=aa w2 (.cells FX 35);have zh:=hid (au.new w2 35 FX);go_upto_region 5 with (first
   |(refine wpList_store_row rfl 35 (.tmp 6) (.tmp 22) rfl w2.heap.size FX rfl rfl 35 dA (au.new w2 35 dA) il.out kK.out jD.out ?_
     rw[iy]))
  change Code.wp _ _ _ _ (w2.alloc (.cells FX 35));have cm:=hid (HE.out.later QE);have kX:=hid (ah.then gI.out QE);have jV:=hid (St.at_.keep (cP QE) qp.out);have tq:=hid (ry.out.later QE);have tu:=hid (St.at_.keep (cP QE) BV.out);replace HE:=cm;clear cm;replace gI:=kX;clear kX;replace qp:=jV;clear jV;replace ry:=tq;clear tq;replace BV:=tu;clear tu;clear QE il kK jD;generalize U0:w2.heap.size=q2 at*;generalize hW:(World.alloc w2 _)=W2 at*;clear hW U0;have hp:=adQ.out.symm.trans T8.out;have hx:=T7.out.symm.trans T9.out;subst hp hx;have t1:((px1:Int)==(px1:Int))=true:=by simp
  have t2:((pp1:Int)==(pp1:Int))=true:=by simp
  have HST:=hid (LN Vu.out YF.out qp.out BV.out (Vs s.data.toList));go_wp2_with (first
   |(refine qq rfl 35 (.tmp 3) rfl q1 rfl 35 cs1 (0,0) _ ry.out Tryz.underlying35 rfl (VB Vu.out) ?_)
   |(refine qq rfl 35 (.tmp 6) rfl q2 rfl 35 FX (0,0) _ zh.out Tryz.underlying35 rfl (VB YF.out) ?_))
  refine HST.out.mono ?_;rintro e w3 ⟨rfl,b3⟩;have rz:=hid (HE.out.later b3);have hb3:=ah.then gI.out b3
  go_wp2_with fail;refine(En _ rz.out).mono ?_;rintro e w4 ⟨rfl,b4⟩;go_wp2_with fail;go_ret;exact⟨rfl,ah.then hb3 b4⟩
theorem LO {H:Type}(enc:TypeId×Value→H)(W:World)(base:Nat)(v0:Value)(d0:DataW H)(p0:List MemPlace)(ok0:Value.okWide Tryz.prog W .any base 9 v0)
  (k0:DataW.Trod enc Tryz.prog W 0 (fun _=>true) true 9 v0 d0 p0) (hE:jO W):Calls Tryz.prog 3 #[v0] W fun e w'=>e=.returned (.bool true)∧Below W.heap.size W w':=by
 obtain⟨s,rfl,_⟩:=Go.ChangeMaps.open_string Tryz.underlying9 ok0 k0;exact QF s W hE
end Go.Proofs.YtcneefmaghoejaaGreatDoor
namespace Go.Proofs.YtcneefmaghoejaaGreatDoor.parseTells
open Go.Lib (hid)
open Go.ChangeShapes Go.WideShapes Go.ChangeAt Go.RowKit
set_option linter.unusedVariables false
theorem own:ownKnob Tryz.prog.godebug=none:=by kernel_rfl
theorem laidOut:laidOutB Tryz.prog=true:=by kernel_rfl
set_option maxRecDepth 100000
theorem lifted (os:Os)(started:os.Started)(H:Type)(enc:TypeId×Value→H):
  ReturnsInHanded {} Tryz.checked os 3 .any (fun w args=>(Rows.parseTellsSpec.pre enc Tryz.prog Tryz.f3 [] false w args∧laidMetH Tryz.prog CO w)∧sizedMet enc Tryz.prog Tryz.f3 (OpenSpec.ofChange Rows.parseTellsSpec) false w args) (Rows.parseTellsSpec.post enc Tryz.prog Tryz.f3 false true false false):=by
 refine Oa (C:=Tryz.checked) (X:=fun w _=>laidMetH Tryz.prog CO w) (fun _ _ _ hh h=>h.of_heap hh) own started (by kernel_rfl) Tryz.func3
  (ChangeSpec.witness_shaped (enc:=enc) (C:=Tryz.checked) (os:=os) (X:=fun w _=>laidMetH Tryz.prog CO w) false (LV os) #[.string ⟨#[]⟩] 8 (Wl os) (Gw os _) (by kernel_rfl) (by kernel_rfl) (by kernel_rfl) (Rh os _)) ?_
 intro W base args ds gs before adV hW ahV hL LU;have hE:=E8 hL;have hval:∀(j:Nat) t v,Tryz.f3.params[j]?=some t→args[j]?=some v→Value.okWide Tryz.prog W .any base t v:=adV;have hsz:(DataW.weightsEach Tryz.prog (Tryz.f3.params.toList++Rows.parseTellsSpec.plain.varTypes Tryz.prog) (ds++gs)).all (· ≤reachBytes)=true:=ahV;have hW':=hW;obtain⟨p,q,yj,hV,rfl,hfz,hnd⟩:=hW;have hA:DataW.TrodAll enc Tryz.prog W 0 (fun _=>true) true Tryz.f3.params.toList args.toList ds p:=yj;rw[Tryz.params3] at hA hval hsz;obtain⟨v0,vs0,d0,ds0,p0,q0,ajY,rfl,rfl,h0,r0⟩:=trodAll_cons hA;obtain⟨rfl,rfl,rfl⟩:=trodAll_nil r0;obtain rfl:args= #[v0]:=by cases args;simp_all
 obtain⟨rfl,rfl⟩:=trodVars_none hV;have lt0:∀x∈p0,x.block < W.heap.size:=by obtain⟨m,hm⟩:=h0;exact DataW.trod_lt m _ _ _ hm
 refine(LO enc W base v0 d0 p0 (hval 0 9 v0 rfl rfl) h0 hE).mono fun e W' ⟨he,Ke⟩=>?_
 subst he;exact⟨_,rfl,_,_,_,[],_,[],hW',trodAll_mk1 (shut_bool Tryz.underlying4 _),(trodAll_cons_mk (Below.trod laidOut (by kernel_rfl) (of_decide_eq_true (by kernel_rfl)) h0 Ke lt0) trodAll_mk0),rfl,Ke.frame _,fun h=>by cases h⟩
theorem over:Rows.parseTellsRow.holds Tryz.pinned (OpenSpec.ofChange Rows.parseTellsSpec):=
 OpenClaim.holds_of_wide 3 Tryz.f3 rfl rfl rfl rfl rfl rfl rfl ⟨rfl,rfl,rfl,rfl,rfl⟩ rfl rfl rfl rfl rfl (by kernel_rfl) Tryz.func3 (by kernel_rfl)
  (of_decide_eq_true (by kernel_rfl)) (by unfold Func.isWrapper;first |(rw[if_pos (by decide+kernel)];kernel_rfl)|(rw[if_neg (by decide+kernel)];exact⟨rfl,rfl⟩))
  (fun os started H enc _=>lifted os started H enc)
theorem stands:∀(j:Nat) t,(#[9]:Array TypeId)[j]?=some t→Tryz.prog.wantsStandIn t=false:=by
 intro j t ht;have hm:t∈ [9]:=by rw[← Array.getElem?_toList] at ht;exact List.mem_of_getElem? ht
 simp only[List.mem_cons,List.not_mem_nil,or_false] at hm;rcases hm with rfl
 ·exact(show Tryz.prog.wantsStandIn 9=false by kernel_rfl)
end Go.Proofs.YtcneefmaghoejaaGreatDoor.parseTells
namespace Go.Proofs.YtcneefmaghoejaaGreatDoor
theorem parseTells_proved:Rows.ParseTellsCardSaid:=
 Claim7.holds_tied_plain_at .later [] [.data,.data,.data,.data,.sentinel,.sentinel,.listed,.data,.pinned,.pinned] true Rows.parseTellsCard.stood.harness true
  parseTells.over (fun _ h=>by cases h) (by kernel_rfl) (fun _ h=>by cases h) parseTells_row_tie rfl ⟨rfl,rfl⟩ (by kernel_rfl) rfl
  (fun f fn hf hfn=>by
    obtain rfl:f=3:=Option.some.inj ((show Tryz.prog.funcNamed "tideline/tidelinelaw13.ParseTells" =some 3 by kernel_rfl).symm.trans hf)|>.symm
    obtain rfl:fn=Tryz.f3:=(Option.some.inj (Tryz.func3.symm.trans hfn)).symm
    exact⟨by kernel_rfl,parseTells.stands⟩)
  (by kernel_rfl)
#print axioms Go.Proofs.YtcneefmaghoejaaGreatDoor.parseTells_proved
end Go.Proofs.YtcneefmaghoejaaGreatDoor
