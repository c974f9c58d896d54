/- Parts of the proof. -/
import Derived.Test.YtehhdlgjfdnafaaGreatDoorXB10
namespace Go.Proofs.YtehhdlgjfdnafaaGreatDoor
open List
variable{p:Prop}
set_option maxHeartbeats 90000000
set_option maxRecDepth 100000
open Go.Lib (hid)
open Go.RowKit
set_option linter.unusedVariables false
def mm (u:Nat->Value)(M:List Nat)(σ:Nat->Option Value)(i:Nat)(_:World)(v:Value):Prop:=if i∈M then σ i=some v else v=u i
def oW (σ:Nat->Option Value)(i:Nat)(v:Value):Nat->Option Value:=λ j=>if j=i then some v else σ j
theorem Gc (σ:Nat->Option Value)(i:Nat)(v:Value):oW σ i v i=some v:=by simp[oW]
variable{i j:Nat}
theorem aar(σ:Nat->Option Value) (v:Value)(h:j≠i):oW σ i v j=σ j:=by simp[oW,h]
def acW (P:Program)(l:List Oper)(u:Nat->Value)(M:List Nat)(G:(Nat->Option Value)->World->Prop)(a0:Act)(i:Nat)(o:Oper):Prop:=
 ∀ρ w σ,cd ρ->G σ w->mK l (mm u M σ) a0.eval ρ w o (tmpsOf o)->(∀e∈fV o,e∈M->(σ e).isSome=true)->(i∈M->σ i=none)->o.guard=none/\
  if i∈M then yG P o ρ w λ v w'=>G (oW σ i v) w' else(execOp ρ o).run P w=.ok (.value (u i)) w
def Pk (P:Program)(l:List Oper)(u:Nat->Value)(M:List Nat)(G:(Nat->Option Value)->World->Prop)(a0:Act):List Oper->Nat->Prop
 | [],_=>True
 | o::rest,i=>acW P l u M G a0 i o/\Pk P l u M G a0 rest (i+1)
variable{P:Program}{L:List Oper}{u:Nat->Value}{M:List Nat}{G:(Nat->Option Value)->World->Prop}{a0:Act}
theorem Gd:∀ {l:List Oper} {k:Nat},Pk P L u M G a0 l k->∀i o,l[i]?=some o->acW P L u M G a0 (k+i) o
 | [],_,_,i,o,h=>by simp at h
 | x::l,k,hs,0,o,h=>by simp at h;subst h;exact hs.1
 | x::l,k,hs,i+1,o,h=>by have:=Gd hs.2 i o Tam;rwa [show k+1+i=k+(i+1) by omega] at this
section
variable {P:Program} {l zs:List Oper} {Q:Exit->Act->World->Prop} {u:Nat->Value} {M:List Nat} {G:(Nat->Option Value)->World->Prop} {a0:Act} {w0:World} {V:Nat->World->Value->Prop}
theorem zcb.Kat(h:p:=by
 have hK:=yM (V:=V) (λ d=>a.eval (.tmp d)) l 0 a0 (λ i o d hi hd=>by
  rw[Nat.zero_add]
  have GV:i < l.length:=by
   rcases Nat.lt_or_ge i l.length with h' | h'
   ·exact h'
   ·rw[getElem?_eq_none h'] at hi;cases hi
  exact I.new i o d hi (hall i GV) hd) hf
 rw[<- ha] at hK;exact Zbq):p:=h
theorem Ge {N:Nat}(az:cT l N l 0=true)(hz:dD (l++zs) zs l.length=true) {listed:Array Bool} {a:Act} {w:World}(hf:cU V (λ a w=>wpList P (l++zs).toArray Q zs a w) l 0 a0 w)(I:Inv l V (λ _ _=>True) a0 w0 (l++zs).length listed a w)
  (h0:bH l.length listed=0):wpAny P .any (l++zs).toArray Q zs.length listed a w:=by
 open zcb in exact ZaF
theorem zfN.KbB(h:p:=by
 by_cases hjm:j∈M
 ·rw[if_pos hjm] at hstep;refine kA hstep ?_;intro v w' Sj;have hne:∀i,i≠j->oW σ j v i=σ i:=λ i hi=>aar σ v hi
  have I':Inv l (mm u M (oW σ j v)) (λ _ _=>True) a0 w0 (l++zs).length listed a w:=I.imp (λ i w x h=>by
   unfold mm at*
   by_cases him:i∈M
   ·rw[if_pos him] at h ⊢
    rw[hne i (λ e=>by subst e;rw[hnone him] at h;cases h)]
    exact h
   ·rw[if_neg him] at h ⊢;exact h)
  refine ih _ _ _ (oW σ j v) (I'.step az (λ _ _ _ _ h _=>h) (λ _ _ _ _ _=>trivial) yN Ef yH eY trivial ?_) Sj ?_ XN
  ·unfold mm;rw[if_pos hjm];exact Gc σ j v
  ·intro k hk;rw[fH _ _ _ WC];by_cases hkj:k=j
   ·subst hkj;rw[Gc];simp
   ·rw[if_neg hkj,hne k hkj];exact fW k hk
 ·rw[if_neg hjm] at hstep;refine kA (T:=λ v w'=>v=u j/\w'=w) (ae hstep ⟨rfl,rfl⟩) ?_;rintro v w' ⟨rfl,rfl⟩;refine ih _ _ _ σ (I.step az (λ _ _ _ _ h _=>h) (λ _ _ _ _ _=>trivial) yN Ef yH eY trivial ?_) hg ?_ XN
  ·unfold mm;rw[if_neg hjm]
  ·intro k hk;rw[fH _ _ _ WC,if_neg (λ e:k=j=>hjm (by rw[<- e];exact hk))];exact fW k hk):p:=h
theorem zar.Kab(h:p:=by
 have hst:=Gd hs j oj yN;rw[Nat.zero_add] at hst;have MU:=Inv.reads az I yN yH eY (tmpsOf oj) (λ _ h=>h)
 have hnone:j∈M->σ j=none:=λ hjm=>by
  cases tR:σ j with
  | none=>rfl
  | some v=>have:=(fW j hjm).2 (by rw[tR];rfl);rw[yH] at this;cases this
 obtain⟨hgd,hstep⟩:=hst a.eval w σ (mJ a) hg MU (λ e he hem=>(fW e hem).1 (eY e he)) hnone;open zfN in exact Zc5):p:=h
theorem Aq {id:Nat} {ops:List Oper}(zs:List Oper)(l:List Oper)(vB:ops=l++zs)(u:Nat->Value)(M:List Nat)(G:(Nat->Option Value)->World->Prop)(nY:∀σ w,G σ w->G σ w.drew)(hG:G (λ _=>none) w0)
  (hm:P.follows .mixedOrders=true) (az:cT l a0.tmps.size l 0=true) (hz:dD (l++zs) zs l.length=true) (Qb:M.all (λ i=>decide (i < l.length))=true)
  (hs:Pk P l u M G a0 l 0) (hf:∀σ w,(∀i∈M,(σ i).isSome=true)->G σ w->cU (mm u M σ) (λ a w=>wpList P ops.toArray Q zs a w) l 0 a0 w):(Code.region id ops.toArray true).wp P Q a0 w0:=by
 subst vB
 have main:∀(fuel:Nat) (listed:Array Bool) (a:Act) (w:World) (σ:Nat->Option Value),Inv l (mm u M σ) (λ _ _=>True) a0 w0 (l++zs).length listed a w->G σ w->(∀i∈M,(listed.getD i false=true↔(σ i).isSome=true))->fuel=bH l.length listed+zs.length->wpAny P .any (l++zs).toArray Q fuel listed a w:=by
  intro fuel
  induction fuel with
  | zero=>
    intro listed a w σ I hg fW Q0;have h0:bH l.length listed=0:=by omega
    have hz0:zs.length=0:=by omega
    have hall:=dO h0;have:=Ge az hz (hf σ w (λ i hi=>(fW i hi).1 (hall i (of_decide_eq_true (List.all_eq_true.1 Qb i hi)))) hg) I h0;rwa [hz0] at this
  | succ fuel ih=>
    intro listed a w σ I hg fW Q0;by_cases h0:bH l.length listed=0
    ·have hall:=dO h0;have:=Ge az hz (hf σ w (λ i hi=>(fW i hi).1 (hall i (of_decide_eq_true (List.all_eq_true.1 Qb i hi)))) hg) I h0;exact ZeY
    ·open zar in exact Zab
 refine wp_region_any hm ?_;have:=main (l++zs).toArray.size (Array.replicate (l++zs).toArray.size false) a0 w0.drew (λ _=>none) ⟨trivial,rfl,rfl,λ _ _=>rfl,(λ i o d _ h=>by rw[aX] at h;cases h),(λ i o _ h=>by rw[aX] at h;cases h),by simp,λ i _=>aX _ _⟩ (nY _ _ hG) (λ i _=>by rw[aX];simp) (by
  have:bH l.length (Array.replicate (l++zs).toArray.size false)=l.length:=by
   unfold bH
   rw[List.filter_eq_self.2 (λ i _=>by rw[aX];rfl),length_range]
  rw[this];simp)
 exact this
end
open Go.ChangeShapes Go.WideShapes Go.ChangeAt
set_option linter.unusedSimpArgs false
theorem zdh.KaI(h:p:=by go_enter Tryz.func59,Tryz.ntmps59;exact Zak):p:=h
theorem KN (w:World)(y:Ex)(ys:List Ex)(ds:List Nat)(S:Nat->Prop)(hS:∀b,S b->b < w.heap.size)(hn:y.n=ys.length)(hA:RL aT 7 w S y.A ys)(hd:ds.length=ys.length)(hD:∀(i:Nat) x d,ys[i]?=some x->ds[i]?=some d->rU 59 w x d)(hm:iH ds<=1000000)(hl:ys.length<=1000000000):rU 59 w y (iH ds+1):=by
 open zdh in exact Za6
mutual
theorem Tr.ajU {w:World} {S:Nat->Prop}(hS:∀b,S b->b < w.heap.size):∀(t:Tr) (y:Ex),t.at_ w S y->t.thin->t.depth<=1000000->rU 59 w y t.depth
 | .mk op v name width args,y,h,ht,hd=>by unfold Tr.at_ at h;obtain⟨_,_,_,_,hn,ys,hr,ha⟩:=h;unfold Tr.thin at ht;simp only[Tr.depth] at hd ⊢;have hl:=Tr.eZ.length ha;rw[po] at hd ⊢;exact KN w y ys (args.map Tr.depth) S hS Ta9 hr (by simp[hl]) (Tr.acn hS args ys ha ht.2 Taa) Taa TaN
theorem Tr.acn {w:World} {S:Nat->Prop}(hS:∀b,S b->b < w.heap.size):∀(ts:List Tr) (ys:List Ex),Tr.eZ w S ts ys->Tr.ix ts->iH (ts.map Tr.depth)<=1000000->∀(i:Nat) x d,ys[i]?=some x->(ts.map Tr.depth)[i]?=some d->rU 59 w x d
 | [],ys,h,_,_,i,x,d,hx,hd=>by simp at hd
 | t::ts,ys,h,ht,hm,i,x,d,hx,hd=>by
   unfold Tr.eZ at h;obtain⟨y,ys',rfl,h1,h2⟩:=h;unfold Tr.ix at ht;simp only[map_cons,iH] at hm
   match i,hx,hd with
   | 0,hx,hd=>simp at hx hd;subst hx hd;exact Tr.ajU hS t y h1 ht.1 Taa
   | i+1,hx,hd=>exact Tr.acn hS ts ys' h2 ht.2 Taa i x d TaI (by simpa using hd)
end
end Go.Proofs.YtehhdlgjfdnafaaGreatDoor
