/- Parts of the proof. -/
import Derived.Test.YtehhdlgjfdnafaaGreatDoorXE11
namespace Go.Proofs.YtehhdlgjfdnafaaGreatDoor
open List
variable{p:Prop}
set_option maxHeartbeats 90000000
set_option maxRecDepth 100000
open Go.Lib (hid)
open Go.RowKit
set_option linter.unusedVariables false
def lz (u:Nat->Value)(M:List Nat)(σ:Nat->Option Value)(i:Nat)(_:World)(v:Value):Prop:=if i∈M then σ i=some v else v=u i
def od (σ:Nat->Option Value)(i:Nat)(v:Value):Nat->Option Value:=λ j=>if j=i then some v else σ j
theorem DN (σ:Nat->Option Value)(i:Nat)(v:Value):od σ i v i=some v:=by simp[od]
variable{i j:Nat}
theorem YB(σ:Nat->Option Value) (v:Value)(h:j≠i):od σ i v j=σ j:=by simp[od,h]
def F7 (P:Program)(l:List Oper)(u:Nat->Value)(M:List Nat)(G:(Nat->Option Value)->World->Prop)(a0:Act)(i:Nat)(o:Oper):Prop:=
 ∀ρ w σ,bP ρ->G σ w->lS l (lz u M σ) a0.eval ρ w o (tmpsOf o)->(∀e∈fA o,e∈M->(σ e).isSome=true)->(i∈M->σ i=none)->o.guard=none/\
  if i∈M then wk P o ρ w λ v w'=>G (od σ i v) w' else(execOp ρ o).run P w=.ok (.value (u i)) w
def LP (P:Program)(l:List Oper)(u:Nat->Value)(M:List Nat)(G:(Nat->Option Value)->World->Prop)(a0:Act):List Oper->Nat->Prop
 | [],_=>True
 | o::rest,i=>F7 P l u M G a0 i o/\LP P l u M G a0 rest (i+1)
variable{P:Program}{L:List Oper}{u:Nat->Value}{M:List Nat}{G:(Nat->Option Value)->World->Prop}{a0:Act}
theorem DO:∀ {l:List Oper} {k:Nat},LP P L u M G a0 l k->∀i o,l[i]?=some o->F7 P L u M G a0 (k+i) o
 | [],_,_,i,o,h=>by simp at h
 | x::l,k,hs,0,o,h=>by simp at h;subst h;exact hs.1
 | x::l,k,hs,i+1,o,h=>by have:=DO hs.2 i o Tam;rwa [show k+1+i=k+(i+1) by omega] at this
section
variable {P:Program} {l zs:List Oper} {Q:Exit->Act->World->Prop} {u:Nat->Value} {M:List Nat} {G:(Nat->Option Value)->World->Prop} {a0:Act} {w0:World} {V:Nat->World->Value->Prop}
theorem zbY.Kar(h:p:=by
 have hK:=wD (V:=V) (λ d=>a.eval (.tmp d)) l 0 a0 (λ i o d hi hd=>by
  rw[Nat.zero_add]
  have Ea:i < l.length:=by
   rcases Nat.lt_or_ge i l.length with h' | h'
   ·exact h'
   ·rw[getElem?_eq_none h'] at hi;cases hi
  exact I.new i o d hi (hall i Ea) hd) hf
 rw[<- ha] at hK;exact Zbj):p:=h
theorem DR {N:Nat}(ay:cM l N l 0=true)(hz:dw (l++zs) zs l.length=true) {listed:Array Bool} {a:Act} {w:World}(hf:cN V (λ a w=>wpList P (l++zs).toArray Q zs a w) l 0 a0 w)(I:Inv l V (λ _ _=>True) a0 w0 (l++zs).length listed a w)
  (h0:bz l.length listed=0):wpAny P .any (l++zs).toArray Q zs.length listed a w:=by
 open zbY in exact ZaD
theorem zfe.Kbs(h:p:=by
 by_cases hjm:j∈M
 ·rw[if_pos hjm] at hstep;refine jJ hstep ?_;intro v w' NI;have hne:∀i,i≠j->od σ j v i=σ i:=λ i hi=>YB σ v hi
  have I':Inv l (lz u M (od σ j v)) (λ _ _=>True) a0 w0 (l++zs).length listed a w:=I.imp (λ i w x h=>by
   unfold lz at*
   by_cases Zf:i∈M
   ·rw[if_pos Zf] at h ⊢
    rw[hne i (λ e=>by subst e;rw[hnone Zf] at h;cases h)]
    exact h
   ·rw[if_neg Zf] at h ⊢;exact h)
  refine ih _ _ _ (od σ j v) (I'.step ay (λ _ _ _ _ h _=>h) (λ _ _ _ _ _=>trivial) wE BL wq eI trivial ?_) NI ?_ Th
  ·unfold lz;rw[if_pos hjm];exact DN σ j v
  ·intro k hk;rw[fh _ _ _ Rv];by_cases hkj:k=j
   ·subst hkj;rw[DN];simp
   ·rw[if_neg hkj,hne k hkj];exact gw k hk
 ·rw[if_neg hjm] at hstep;refine jJ (T:=λ v w'=>v=u j/\w'=w) (ae hstep ⟨rfl,rfl⟩) ?_;rintro v w' ⟨rfl,rfl⟩;refine ih _ _ _ σ (I.step ay (λ _ _ _ _ h _=>h) (λ _ _ _ _ _=>trivial) wE BL wq eI trivial ?_) hg ?_ Th
  ·unfold lz;rw[if_neg hjm]
  ·intro k hk;rw[fh _ _ _ Rv,if_neg (λ e:k=j=>hjm (by rw[<- e];exact hk))];exact gw k hk):p:=h
theorem zar.Kab(h:p:=by
 have hst:=DO hs j oj wE;rw[Nat.zero_add] at hst;have FY:=Inv.reads ay I wE wq eI (tmpsOf oj) (λ _ h=>h)
 have hnone:j∈M->σ j=none:=λ hjm=>by
  cases sJ:σ j with
  | none=>rfl
  | some v=>have:=(gw j hjm).2 (by rw[sJ];rfl);rw[wq] at this;cases this
 obtain⟨hgd,hstep⟩:=hst a.eval w σ (lR a) hg FY (λ e he hem=>(gw e hem).1 (eI e he)) hnone;open zfe in exact ZcQ):p:=h
theorem ym {id:Nat} {ops:List Oper}(zs:List Oper)(l:List Oper)(tV:ops=l++zs)(u:Nat->Value)(M:List Nat)(G:(Nat->Option Value)->World->Prop)(nw:∀σ w,G σ w->G σ w.drew)(hG:G (λ _=>none) w0)
  (hm:P.follows .mixedOrders=true) (ay:cM l a0.tmps.size l 0=true) (hz:dw (l++zs) zs l.length=true) (Mj:M.all (λ i=>decide (i < l.length))=true)
  (hs:LP P l u M G a0 l 0) (hf:∀σ w,(∀i∈M,(σ i).isSome=true)->G σ w->cN (lz u M σ) (λ a w=>wpList P ops.toArray Q zs a w) l 0 a0 w):(Code.region id ops.toArray true).wp P Q a0 w0:=by
 subst tV
 have main:∀(fuel:Nat) (listed:Array Bool) (a:Act) (w:World) (σ:Nat->Option Value),Inv l (lz u M σ) (λ _ _=>True) a0 w0 (l++zs).length listed a w->G σ w->(∀i∈M,(listed.getD i false=true↔(σ i).isSome=true))->fuel=bz l.length listed+zs.length->wpAny P .any (l++zs).toArray Q fuel listed a w:=by
  intro fuel
  induction fuel with
  | zero=>
    intro listed a w σ I hg gw WH;have h0:bz l.length listed=0:=by omega
    have hz0:zs.length=0:=by omega
    have hall:=dG h0;have:=DR ay hz (hf σ w (λ i hi=>(gw i hi).1 (hall i (of_decide_eq_true (List.all_eq_true.1 Mj i hi)))) hg) I h0;rwa [hz0] at this
  | succ fuel ih=>
    intro listed a w σ I hg gw WH;by_cases h0:bz l.length listed=0
    ·have hall:=dG h0;have:=DR ay hz (hf σ w (λ i hi=>(gw i hi).1 (hall i (of_decide_eq_true (List.all_eq_true.1 Mj i hi)))) hg) I h0;exact ZeJ
    ·open zar in exact Zab
 refine wp_region_any hm ?_;have:=main (l++zs).toArray.size (Array.replicate (l++zs).toArray.size false) a0 w0.drew (λ _=>none) ⟨trivial,rfl,rfl,λ _ _=>rfl,(λ i o d _ h=>by rw[aS] at h;cases h),(λ i o _ h=>by rw[aS] at h;cases h),by simp,λ i _=>aS _ _⟩ (nw _ _ hG) (λ i _=>by rw[aS];simp) (by
  have:bz l.length (Array.replicate (l++zs).toArray.size false)=l.length:=by
   unfold bz
   rw[List.filter_eq_self.2 (λ i _=>by rw[aS];rfl),length_range]
  rw[this];simp)
 exact this
end
open Go.ChangeShapes Go.WideShapes Go.ChangeAt
set_option linter.unusedSimpArgs false
theorem zc0.KaF(h:p:=by go_enter Tryz.func59,Tryz.ntmps59;exact Zak):p:=h
theorem Ic (w:World)(y:Ex)(ys:List Ex)(ds:List Nat)(S:Nat->Prop)(hS:∀b,S b->b < w.heap.size)(hn:y.n=ys.length)(hA:RL aL 7 w S y.A ys)(hd:ds.length=ys.length)(hD:∀(i:Nat) x d,ys[i]?=some x->ds[i]?=some d->qM 59 w x d)(hm:ia ds<=1000000)(hl:ys.length<=1000000000):qM 59 w y (ia ds+1):=by
 open zc0 in exact Za2
mutual
theorem Tr.aec {w:World} {S:Nat->Prop}(hS:∀b,S b->b < w.heap.size):∀(t:Tr) (y:Ex),t.at_ w S y->t.thin->t.depth<=1000000->qM 59 w y t.depth
 | .mk op v name width args,y,h,ht,hd=>by unfold Tr.at_ at h;obtain⟨_,_,_,_,hn,ys,hr,ha⟩:=h;unfold Tr.thin at ht;simp only[Tr.depth] at hd ⊢;have hl:=Tr.dS.length ha;rw[oD] at hd ⊢;exact Ic w y ys (args.map Tr.depth) S hS Tba hr (by simp[hl]) (Tr.ZM hS args ys ha ht.2 Taa) Taa TaC
theorem Tr.ZM {w:World} {S:Nat->Prop}(hS:∀b,S b->b < w.heap.size):∀(ts:List Tr) (ys:List Ex),Tr.dS w S ts ys->Tr.gT ts->ia (ts.map Tr.depth)<=1000000->∀(i:Nat) x d,ys[i]?=some x->(ts.map Tr.depth)[i]?=some d->qM 59 w x d
 | [],ys,h,_,_,i,x,d,hx,hd=>by simp at hd
 | t::ts,ys,h,ht,hm,i,x,d,hx,hd=>by
   unfold Tr.dS at h;obtain⟨y,ys',rfl,h1,h2⟩:=h;unfold Tr.gT at ht;simp only[map_cons,ia] at hm
   match i,hx,hd with
   | 0,hx,hd=>simp at hx hd;subst hx hd;exact Tr.aec hS t y h1 ht.1 Taa
   | i+1,hx,hd=>exact Tr.ZM hS ts ys' h2 ht.2 Taa i x d TaJ (by simpa using hd)
end
variable{α β:Type}{R:α->β->Prop}{l:List α}{m:List β}
theorem VM(h:fS R l m):∀ {i:Nat} {x:α} {y:β},l[i]?=some x->m[i]?=some y->R x y:=by
 induction h with
 | nil=>intro i x y h;simp at h
 | cons a _ ih=>
   intro i x y h k
   cases i with
   | zero=>simp at h k;subst h k;exact a
   | succ i=>exact ih Tam (by simpa using k)
def NF (n a b m:Int):Int:=wrap64 (wrap64 (wrap64 (wrap64 (n+1)+wrap64 (wrap64 (a / 5000)*2000))+wrap64 (wrap64 (b / 5000)*2000))+m)
mutual
def Tr.size:Tr->Int
 | .mk op v name width args=>Tr.oJ 0 args
def Tr.oJ:Int->List Tr->Int
 | n,[]=>n
 | n,.mk op v name width args::ts=>if n < 2000 then Tr.oJ (NF n name.size v.s.size (Tr.oJ 0 args)) ts else n
end
def BH (w:World)(A:Option Addr)(n c:Nat)(m:Int):Prop:=∀W,Below w.heap.size w W->Calls Tryz.prog 8 #[.slice A n c] W λ e w'=>e=.returned (.int .i64 m)/\Below W.heap.size W w'
theorem zgo.KbX(h:p:=by
 go_big_quiet_step ((go_at_call 8;exact iM (Nat.le_refl _) (lW _)));repeat (go_big_quiet_step (fail))
 refine wpQuiet_nil ?_;rintro V4 ⟨x2,hx2⟩;have hW:=x2.h;rw[<- hx2] at hW;clear hx2 x2 k3 k4 k6 lW;go_wp2_with fail;go_roundw;case rel=>refine⟨k+1,NF n x.name.size x.v.s.size m,hlt,by go_num,by unfold NF;rfl,?_,af.then HB.out hW⟩;rw[HF.out,HD.out];exact HG.out
 case measure=>exact Zcj):p:=h
theorem DX (A:Option Addr)(n c:Nat)(ts:List Tr)(ys:List Ex)(w:World)(S:Nat->Prop)(hS:∀b,S b->b < w.heap.size)(hn:n=ys.length)(hl:ys.length<=1000000000)(hA:RL aL 7 w S A ys)(hall:Tr.dS w S ts ys)(hE:∀(i:Nat) (t:Tr) (y:Ex),ts[i]?=some t->ys[i]?=some y->BH w y.A y.n y.c t.size):BH w A n c (Tr.oJ 0 ts):=by
 intro W hW;subst hn;have BW:=Tr.dS.length hall;have HLT:=hid BW;have Ej:=hid (sR.2 hall);have HA:=hid hA;have HE:=hid hE;have HW:=hid hW;clear hA hE hW hall BW;go_enter Tryz.func8,Tryz.ntmps8;go_wp2_with fail;go_loopw [3,4] (λ nv i wr=>∃(k:Nat) (n:Int),k<=ys.length/\i=.int .i64 k/\nv=.int .i64 n/\Tr.oJ 0 ts=Tr.oJ n (ts.drop k)/\Below W.heap.size W wr) (λ _ i _=>ys.length - (intOf i).toNat);case atStart=>exact⟨0,0,Nat.zero_le _,rfl,rfl,rfl,Below.refl _ _⟩
 case round=>
  obtain⟨k,n,hk,rfl,rfl,hF,hb⟩:=hrel;have HF:=hid hF;have HB:=hid hb;clear hF;by_cases hlt:k < ys.length
  ·have hkt:k < ts.length:=by have:=HLT.out;omega
   have HD:=hid (show ts.drop k=ts[k]::ts.drop (k+1)from drop_eq_getElem_cons hkt);obtain⟨x,hx⟩:∃x,ys[k]?=some x:=⟨_,getElem?_eq_getElem hlt⟩;have hsz:=HE.out k ts[k] x (getElem?_eq_getElem hkt) hx;have hat:ts[k].at_ w S x:=VM Ej.out (getElem?_eq_getElem hkt) hx;by_cases h2:n < 2000
   ·have hwr:Below w.heap.size w wr:=HW.out.trans (hb.mono HW.out.size);rcases HA.out with h0 |⟨b,off,mr,lH,hc⟩
    ·subst h0;simp at hlt
    have AK:b < wr.heap.size:=Nat.lt_of_lt_of_le (hS b lH) hwr.size;have hcell:=λ j v hv=>(hwr.cell (p:=⟨b,off+k*7+j,none⟩) (hS b lH)).trans (hc k x j v hx hv)
    have k3:=λ q:Ext wr.heap.size wr=>(q.h.cell (p:=⟨b,off+k*7+3,none⟩) AK).trans (hcell 3 (.string x.v.s) rfl)
    have k4:=λ q:Ext wr.heap.size wr=>(q.h.cell (p:=⟨b,off+k*7+4,none⟩) AK).trans (hcell 4 (.string x.name) rfl)
    have k6:=λ q:Ext wr.heap.size wr=>(q.h.cell (p:=⟨b,off+k*7+6,none⟩) AK).trans (hcell 6 (.slice x.A x.n x.c) rfl)
    generalize ts[k]=t at*;obtain⟨top,tv,Jt,BI,targs⟩:=t;unfold Tr.at_ at hat;have h4:=hat.2.1;have h5:=hat.2.2.1;clear hat;have HG:=hid (show Tr.oJ n (.mk top tv Jt BI targs::ts.drop (k+1))=Tr.oJ (NF n x.name.size x.v.s.size (Tr.size (.mk top tv Jt BI targs))) (ts.drop (k+1)) by
     rw[h4,h5]
     conv=>lhs;unfold Tr.oJ
     rw[if_pos h2]
     rfl)
    clear h4 h5;generalize Tr.size (.mk top tv Jt BI targs)=m at*;have lW:=λ q:Ext wr.heap.size wr=>hsz q.w (hwr.trans (q.h.mono hwr.size))
    have t1:=decide_eq_true h2;clear hcell hc hx hsz hwr hb;subst mr;go_wp2_with fail;refine gU 28 wr.heap.size wr (Below.refl _ _) Tab Tab Tab Tab ?_;open zgo in exact Zeg
   ·have t1:=decide_eq_false h2;generalize ts[k]=t at*;obtain⟨top,tv,Jt,BI,targs⟩:=t;have HG:=hid (show Tr.oJ n (.mk top tv Jt BI targs::ts.drop (k+1))=n by
     unfold Tr.oJ
     rw[if_neg h2])
    clear hsz hat hx;go_wp2_with fail;go_ret;refine⟨?_,HB.out⟩;rw[HF.out,HD.out,HG.out];rfl
  ·go_wp2_with fail;go_ret;refine⟨?_,HB.out⟩;rw[HF.out,drop_eq_nil_of_le (by have:=HLT.out;omega)];unfold Tr.oJ;rfl
mutual
theorem Tr.Zc {w:World} {S:Nat->Prop}(hS:∀b,S b->b < w.heap.size):∀(t:Tr) (y:Ex),t.at_ w S y->t.thin->BH w y.A y.n y.c t.size
 | .mk op v name width args,y,h,ht=>by unfold Tr.at_ at h;obtain⟨_,_,_,_,hn,ys,hr,ha⟩:=h;unfold Tr.thin at ht;have hl:=Tr.dS.length ha;unfold Tr.size;exact DX y.A y.n y.c args ys w S hS Tba TaC hr ha (Tr.BJ hS args ys ha ht.2)
theorem Tr.BJ {w:World} {S:Nat->Prop}(hS:∀b,S b->b < w.heap.size):∀(ts:List Tr) (ys:List Ex),Tr.dS w S ts ys->Tr.gT ts->∀(i:Nat) (t:Tr) (y:Ex),ts[i]?=some t->ys[i]?=some y->BH w y.A y.n y.c t.size
 | [],ys,h,_,i,t,y,ht,_=>by simp at ht
 | x::ts,ys,h,ht,i,t,y,hx,hy=>by
   unfold Tr.dS at h;obtain⟨z,zs,rfl,h1,h2⟩:=h;unfold Tr.gT at ht
   match i,hx,hy with
   | 0,hx,hy=>simp at hx hy;subst hx hy;exact Tr.Zc hS x z h1 ht.1
   | i+1,hx,hy=>exact Tr.BJ hS ts zs h2 ht.2 i t y TaJ Ta4
end
variable{w:World}{S:Nat->Prop}{s:Sl}
theorem QH(hS:∀b,S b->b < w.heap.size) {l:List Tr} (h:eJ.sl w S s l)(ht:Tr.gT l)(hl:l.length<=1000000000):BH w s.A s.n s.c (Tr.oJ 0 l):=by obtain⟨hn,ys,hr,ha⟩:=h;have ha:=sR.1 ha;have hl2:=Tr.dS.length ha;exact DX s.A s.n s.c l ys w S hS (by rw[hn,hl2]) (by rw[hl2];exact hl) hr ha (Tr.BJ hS l ys ha ht)
end Go.Proofs.YtehhdlgjfdnafaaGreatDoor
