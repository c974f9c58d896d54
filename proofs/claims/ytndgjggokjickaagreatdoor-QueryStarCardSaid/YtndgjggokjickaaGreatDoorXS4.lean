/- Parts of the proof. -/
import Derived.Laws.CopyOwn
import Derived.Lib.ItoaLen
import Derived.Lib.AppendZeros
import Derived.Lib.ParseIntB
import Derived.Lib.Case
import Derived.Test.YtndgjggokjickaaGreatDoorXS3
namespace Go.Proofs.YtndgjggokjickaaGreatDoor
open List
variable{p:Prop}
set_option maxHeartbeats 90000000
set_option maxRecDepth 100000
open Go.RowKit
def Yr (u:Nat->Value)(ch:List Nat)(vs:List Value)(i:Nat)(_:World)(v:Value):Prop:=
 match ch.idxOf? i with
 | some k=>vs[k]?=some v
 | none=>v=u i
def lx (l:List Oper):List Nat->Bool
 | a::b::r=>(match l[b]? with | some o=>ir o a | none=>false)&& lx l (b::r)
 | _=>true
def RU (P:Program)(l:List Oper)(u:Nat->Value)(ch:List Nat)(G:List Value->World->Prop)(a0:Act)(i:Nat)(o:Oper):Prop:=
 ∀ρ w vs,oT ρ->G vs w->lO l (Yr u ch vs) a0.eval ρ w o (tmpsOf o)->o.guard=none/\
  match ch.idxOf? i with
  | none=>(execOp ρ o).run P w=.ok (.value (u i)) w
  | some k=>vs.length=k->zJ P o ρ w λ v w'=>G (vs++ [v]) w'
def OS (P:Program)(l:List Oper)(u:Nat->Value)(ch:List Nat)(G:List Value->World->Prop)(a0:Act):List Oper->Nat->Prop
 | [],_=>True
 | o::rest,i=>RU P l u ch G a0 i o/\OS P l u ch G a0 rest (i+1)
variable{P:Program}{L:List Oper}{u:Nat->Value}{ch:List Nat}{G:List Value->World->Prop}{a0:Act}
theorem FD:∀ {l:List Oper} {k:Nat},OS P L u ch G a0 l k->∀i o,l[i]?=some o->RU P L u ch G a0 (k+i) o
 | [],_,_,i,o,h=>by simp at h
 | x::l,k,hs,0,o,h=>by simp at h;subst h;exact hs.1
 | x::l,k,hs,i+1,o,h=>by have:=FD hs.2 i o Tal;rwa [show k+1+i=k+(i+1) by omega] at this
theorem Ll{i k:Nat}(h:ch.idxOf? i=some k):ch[k]?=some i:=by rw[List.idxOf?,findIdx?_eq_some_iff_getElem] at h;obtain⟨hk,h1,_⟩:=h;rw[getElem?_eq_getElem hk];simpa using h1
theorem Lm{i:Nat}(h:ch.idxOf? i=none):i∉ch:=by intro hm;rw[List.idxOf?,findIdx?_eq_none_iff] at h;have:=h i hm;simp at this
theorem afD(hn:ch.Nodup) {i k:Nat}(h:ch[k]?=some i):ch.idxOf? i=some k:=by
 obtain⟨hk,he⟩:=List.getElem?_eq_some_iff.1 h
 cases hc:ch.idxOf? i with
 | none=>exact absurd (mem_of_getElem? h) (Lm hc)
 | some k'=>have h2:=Ll hc;obtain⟨Ru,he'⟩:=List.getElem?_eq_some_iff.1 h2;congr 1;exact(getElem_inj hn).1 (he'.trans he.symm)
variable{l:List Oper}
theorem FE:∀ {ch:List Nat} {k a b:Nat},lx l ch=true->ch[k]?=some a->ch[k+1]?=some b->∃o,l[b]?=some o/\ir o a=true
 | [],_,_,_,_,h,_=>by simp at h
 | [x],0,_,_,_,_,h=>by simp at h
 | [x],_+1,_,_,_,h,_=>by simp at h
 | x::y::r,0,a,b,hc,h1,h2=>by
   simp at h1 h2;subst h1 h2;simp only[lx,Bool.and_eq_true] at hc;have:=hc.1;split at this
   ·rename_i o ho;exact⟨o,ho,this⟩
   ·cases this
 | x::y::r,k+1,a,b,hc,h1,h2=>by simp only[lx,Bool.and_eq_true] at hc;exact FE hc.2 (by simpa using h1) (by simpa using h2)
variable{V V':Nat->World->Value->Prop}{R:World->World->Prop}{w0:World}{m:Nat}{listed:Array Bool}
theorem Inv.imp{a:Act} {w:World}(I:Inv l V R a0 w0 m listed a w)(h:∀i w v,V i w v->V' i w v):Inv l V' R a0 w0 m listed a w:=
 ⟨I.r,I.defers,I.size,I.old,λ i o d h1 h2 h3=>h _ _ _ (I.new i o d h1 h2 h3),I.closed,I.len,I.tail⟩
variable{vs:List Value}
theorem Ys(v:Value)(i:Nat)(w:World)(x:Value)(h:Yr u ch vs i w x):Yr u ch (vs++ [v]) i w x:=by
 unfold Yr at*
 cases hk:ch.idxOf? i with
 | some k=>rw[hk] at h;simp only at h ⊢;obtain⟨hlt,_⟩:=List.getElem?_eq_some_iff.1 h;rw[getElem?_append_left hlt];exact h
 | none=>rw[hk] at h;exact h
section
variable {P:Program} {l zs:List Oper} {Q:Exit->Act->World->Prop} {u:Nat->Value} {ch:List Nat} {G:List Value->World->Prop} {a0:Act} {w0:World}
theorem zcG.Kav(h:p:=by
 have hK:=xx (V:=Yr u ch vs) (λ d=>a.eval (.tmp d)) l 0 a0 (λ i o d hi hd=>by
  rw[Nat.zero_add]
  have ui:i < l.length:=by
   rcases Nat.lt_or_ge i l.length with h' | h'
   ·exact h'
   ·rw[getElem?_eq_none h'] at hi;cases hi
  exact I.new i o d hi (hall i ui) hd) hf
 rw[<- ha] at hK;exact Zby):p:=h
theorem FH {N:Nat}(vs:List Value)(bh:dO l N l 0=true)(hz:eK (l++zs) zs l.length=true) {listed:Array Bool} {a:Act} {w:World}(hf:bF (Yr u ch vs) (λ a w=>wpList P (l++zs).toArray Q zs a w) l 0 a0 w)(I:Inv l (Yr u ch vs) (λ _ _=>True) a0 w0 (l++zs).length listed a w)
  (h0:bA l.length listed=0):wpAny P .any (l++zs).toArray Q zs.length listed a w:=by
 open zcG in exact ZaO
theorem zgg.Kbo(h:p:=by
 cases S6:ch.idxOf? i with
 | none=>
   simp only[S6] at hstep;refine jt (T:=λ v w'=>v=u i/\w'=w) (aq hstep ⟨rfl,rfl⟩) ?_;rintro v w' ⟨rfl,rfl⟩;refine ih _ _ _ vs (I.step bh (λ _ _ _ _ h _=>h) (λ _ _ _ _ _=>trivial) vy zK Bf eZ trivial ?_) hg ?_ hvl Yu
   ·unfold Yr;simp only[S6]
   ·intro k i' hk;have hne:i'≠i:=λ e=>Lm S6 (e▸mem_of_getElem? hk)
    rw[eG _ _ _ Yt,if_neg hne];exact cg k i' hk
 | some k=>
   simp only[S6] at hstep;have hck:=Ll S6
   have hvk:vs.length=k:=by
    have h1:¬k < vs.length:=λ h=>by have:=(cg k i hck).2 h;rw[Bf] at this;cases this
    match k,hck,h1 with
    | 0,_,h1=>omega
    | k+1,hck,h1=>obtain⟨Ax,_⟩:=List.getElem?_eq_some_iff.1 hck;have hp:ch[k]?=some ch[k]:=getElem?_eq_getElem WC;obtain⟨o',Bh,he⟩:=FE hch hp hck;rw[vy] at Bh;injection Bh with Bh;subst Bh;have:=(cg k _ hp).1 (eZ _ (cM.1 he));omega
   refine jt (hstep hvk) ?_;intro v w' Rq;have I':=(I.imp (λ Kx w x h=>Ys (ch:=ch) (u:=u) v Kx w x h));refine ih _ _ _ (vs++ [v]) (I'.step bh (λ _ _ _ _ h _=>h) (λ _ _ _ _ _=>trivial) vy zK Bf eZ trivial ?_) Rq ?_ ?_ Yu
   ·unfold Yr;simp only[S6];rw[<- hvk];simp
   ·intro k' i' Ru;rw[eG _ _ _ Yt,length_append,length_singleton];by_cases kY:i'=i
    ·subst kY;have:=afD S5 Ru;rw[S6] at this;injection this with this;simp only[if_true,true_iff];omega
    ·rw[if_neg kY,cg k' i' Ru];have hne:k'≠k:=λ e=>kY (by rw[e,hck] at Ru;injection Ru with Ru;exact Ru.symm)
     omega
   ·obtain⟨Ax,_⟩:=List.getElem?_eq_some_iff.1 hck;simp;omega):p:=h
theorem zan.KW(h:p:=by have hst:=FD hs i oj vy;rw[Nat.zero_add] at hst;have fy:=Inv.reads bh I vy Bf eZ (tmpsOf oj) (λ _ h=>h);obtain⟨hgd,hstep⟩:=hst a.eval w vs (mQ a) hg fy;open zgg in exact ZdD):p:=h
theorem py {id:Nat} {ops:List Oper}(zs:List Oper)(l:List Oper)(kG:ops=l++zs)(u:Nat->Value)(ch:List Nat)(G:List Value->World->Prop)(od:∀vs w,G vs w->G vs w.drew)(hG:G [] w0)
  (hm:P.follows .mixedOrders=true) (bh:dO l a0.tmps.size l 0=true) (hz:eK (l++zs) zs l.length=true) (hch:lx l ch=true) (S5:ch.Nodup) (Kl:ch.all (λ Kx=>decide (Kx < l.length))=true)
  (hs:OS P l u ch G a0 l 0) (hf:∀vs w,vs.length=ch.length->G vs w->bF (Yr u ch vs) (λ a w=>wpList P ops.toArray Q zs a w) l 0 a0 w):(Code.region id ops.toArray true).wp P Q a0 w0:=by
 subst kG
 have main:∀(fuel:Nat) (listed:Array Bool) (a:Act) (w:World) (vs:List Value),Inv l (Yr u ch vs) (λ _ _=>True) a0 w0 (l++zs).length listed a w->G vs w->(∀k Kx,ch[k]?=some Kx->(listed.getD Kx false=true↔k < vs.length))->vs.length<=ch.length->fuel=bA l.length listed+zs.length->wpAny P .any (l++zs).toArray Q fuel listed a w:=by
  intro fuel
  induction fuel with
  | zero=>
    intro listed a w vs I hg cg hvl hfu;have h0:bA l.length listed=0:=by omega
    have hz0:zs.length=0:=by omega
    have hall:=eb h0;have Z9:vs.length=ch.length:=by exact ZdB
    have:=FH vs bh hz (hf vs w Z9 hg) I h0;rwa [hz0] at this
  | succ fuel ih=>
    intro listed a w vs I hg cg hvl hfu;by_cases h0:bA l.length listed=0
    ·have hall:=eb h0;have Z9:vs.length=ch.length:=by exact ZdB
     have:=FH vs bh hz (hf vs w Z9 hg) I h0;exact Zf4
    ·open zan in exact Zae
 refine wp_region_any hm ?_;have:=main (l++zs).toArray.size (Array.replicate (l++zs).toArray.size false) a0 w0.drew [] ⟨trivial,rfl,rfl,λ _ _=>rfl,(λ Kx o d _ h=>by rw[br] at h;cases h),(λ Kx o _ h=>by rw[br] at h;cases h),by simp,λ Kx _=>br _ _⟩ (od _ _ hG) (λ k Kx _=>by rw[br];simp) Tac (by
  have:bA l.length (Array.replicate (l++zs).toArray.size false)=l.length:=by
   unfold bA
   rw[List.filter_eq_self.2 (λ Kx _=>by rw[br];rfl),length_range]
  rw[this];simp)
 exact this
end
set_option linter.unusedVariables false
set_option linter.unusedSimpArgs false
section
variable {α:Type} {c:α->α->Int}
theorem Good.adz (h:Good c) {x y z:α}(h1:c x y < 0)(h2:c y z<=0):c x z < 0:=by
 rcases Int.lt_or_le (c x z) 0 with h3 | h3
 ·exact h3
 ·have:=h.jh x z;have:=h.trans y z x h2 WC;have:=h.jh x y;omega
def jX (c:α->α->Int)(k:α):List α->List α
 | []=> [k]
 | x::xs=>if c x k < 0 then x::jX c k xs else if c x k=0 then x::xs else k::x::xs
def FI (c:α->α->Int)(l:List α):List α:=l.foldl (λ ks k=>jX c k ks) []
theorem Ln (hz:∀x y,c x y=0->x=y)(k y:α):∀l,y∈jX c k l↔y=k\/y∈l
 | []=>by simp[jX]
 | x::xs=>by
   unfold jX;split
   ·rw[mem_cons,Ln hz k y xs,mem_cons];constructor
    ·rintro(h | h | h)
     ·exact .inr (.inl h)
     ·exact .inl h
     ·exact .inr (.inr h)
    ·rintro(h | h | h)
     ·exact .inr (.inl h)
     ·exact .inl h
     ·exact .inr (.inr h)
   ·split
    ·rename_i h;have:=hz _ _ h;subst this;simp
    ·simp
theorem RX (hg:Good c)(k z:α):∀l:List α,c z k < 0->(∀y∈l,c z y < 0)->∀y∈jX c k l,c z y < 0
 | [],h,_,y,hy=>by simp[jX] at hy;rw[hy];exact h
 | x::xs,h,ha,y,hy=>by
   unfold jX at hy;split at hy
   ·rcases List.mem_cons.1 hy with rfl | hy
    ·exact ha _ (mem_cons_self ..)
    ·exact RX hg k z xs h (λ y hy=>ha y (mem_cons_of_mem _ hy)) y hy
   ·split at hy
    ·exact ha y hy
    ·rcases List.mem_cons.1 hy with rfl | hy
     ·exact h
     ·exact ha y hy
theorem yZ (hg:Good c)(k:α):∀l:List α,l.Pairwise (λ a b=>c a b < 0)->(jX c k l).Pairwise (λ a b=>c a b < 0)
 | [],_=>by simp[jX]
 | x::xs,h=>by
   rw[pairwise_cons] at h;unfold jX;split
   ·rename_i h1;rw[pairwise_cons];exact⟨RX hg k x xs h1 h.1,yZ hg k xs h.2⟩
   ·split
    ·rw[pairwise_cons];exact h
    ·rename_i h1 h2;have h3:c k x < 0:=by have:=hg.jh x k;omega
     rw[pairwise_cons,pairwise_cons];refine⟨λ y hy=>?_,h⟩;rcases List.mem_cons.1 hy with rfl | hy
     ·exact h3
     ·exact hg.adz h3 (by have:=h.1 y hy;omega)
theorem BO (hg:Good c)(hz:∀x y,c x y=0->x=y):∀(l s:List α),s.Pairwise (λ a b=>c a b < 0)->(l.foldl (λ ks k=>jX c k ks) s).Pairwise (λ a b=>c a b < 0)/\∀y,y∈l.foldl (λ ks k=>jX c k ks) s↔y∈l\/y∈s
 | [],s,h=>⟨h,λ y=>by simp⟩
 | x::l,s,h=>by
   obtain⟨h1,h2⟩:=BO hg hz l (jX c x s) (yZ hg x s h);refine⟨h1,λ y=>?_⟩;rw[foldl_cons,h2 y,Ln hz,mem_cons];constructor
   ·rintro(h | h | h)
    ·exact .inl (.inr h)
    ·exact .inl (.inl h)
    ·exact .inr h
   ·rintro((h | h)| h)
    ·exact .inr (.inl h)
    ·exact .inl h
    ·exact .inr (.inr h)
theorem vZ (hg:Good c)(hz:∀x y,c x y=0->x=y)(l:List α):(FI c l).Pairwise (λ a b=>c a b < 0)/\∀y,y∈FI c l↔y∈l:=by have:=BO hg hz l [] .nil;exact⟨this.1,λ y=>by rw[FI,this.2 y];simp⟩
def Eo (c:α->α->Int)(x:α):List α->List α
 | []=> [x]
 | y::ys=>if c x y<=0 then x::y::ys else y::Eo c x ys
def qm (c:α->α->Int)(l:List α):List α:=l.foldr (Eo c) []
theorem xK (c:α->α->Int)(x:α):∀l:List α,(Eo c x l).Perm (x::l)
 | []=> .refl _
 | y::ys=>by
   unfold Eo;split
   ·exact .refl _
   ·exact((xK c x ys).cons y).trans (.swap x y ys)
theorem fX (c:α->α->Int):∀l:List α,(qm c l).Perm l
 | []=> .refl _
 | x::l=>(xK c x _).trans ((fX c l).cons x)
theorem za (hg:Good c)(x:α):∀l:List α,l.Pairwise (λ a b=>c a b<=0)->(Eo c x l).Pairwise (λ a b=>c a b<=0)
 | [],_=>by simp[Eo]
 | y::ys,h=>by
   have h':=h;rw[pairwise_cons] at h;unfold Eo;split
   ·rename_i h1;rw[pairwise_cons];refine⟨λ z hz=>?_,h'⟩;rcases List.mem_cons.1 hz with rfl | hz
    ·exact h1
    ·exact hg.trans _ _ _ h1 (h.1 z hz)
   ·rename_i h1;rw[pairwise_cons];refine⟨λ z hz=>?_,za hg x ys h.2⟩;rcases List.mem_cons.1 ((xK c x ys).mem_iff.1 hz)with rfl | hz
    ·have:=hg.jh z y;omega
    ·exact h.1 z hz
theorem iU (hg:Good c):∀l:List α,(qm c l).Pairwise (λ a b=>c a b<=0)
 | []=> .nil
 | x::l=>za hg x _ (iU hg l)
theorem uy {β:Type}(hg:Good c)(f:α->β)(hf:∀x y,c x y=0->f x=f y):∀(l m:List α),l.Perm m->l.Pairwise (λ a b=>c a b<=0)->m.Pairwise (λ a b=>c a b<=0)->l.map f=m.map f:=by
 have hr:∀a:α,c a a=0:=λ a=>by have:=hg.jh a a;omega
 intro l
 induction l with
 | nil=>intro m h _ _;rw[h.nil_eq]
 | cons x l ih=>
   intro m h h1 h2;rw[pairwise_cons] at h1
   cases m with
   | nil=>exact absurd h.symm.nil_eq Tac
   | cons y m=>
     have Ej:=h2;rw[pairwise_cons] at h2
     have hxy:c x y=0:=by
      have a:c x y<=0:=by
       rcases List.mem_cons.1 (h.mem_iff.2 (mem_cons_self ..):y∈x::l)with e | e
       ·rw[e,hr];omega
       ·exact h1.1 y e
      have b:c y x<=0:=by
       rcases List.mem_cons.1 (h.mem_iff.1 (mem_cons_self ..):x∈y::m)with e | e
       ·rw[e,hr];omega
       ·exact h2.1 x e
      have:=hg.jh x y;omega
     rcases List.mem_cons.1 (h.mem_iff.1 (mem_cons_self ..):x∈y::m)with e | e
     ·subst e;rw[map_cons,map_cons,ih m (List.Perm.cons_inv h) h1.2 h2.2]
     · -- x stands within m:put y in its place
       obtain⟨m1,m2,rfl⟩:=append_of_mem e;have hp:l.Perm (y::(m1++m2)):=by refine List.Perm.cons_inv (h.trans ?_) (a:=x);exact(List.perm_middle.cons y).trans (.swap x y _)
       have Hy:∀z∈m1,c z x=0:=λ z hz=>by
        have a:=h2.1 z (List.mem_append.2 (.inl hz));have b:c z x<=0:=by have:=h2.2;rw[pairwise_append] at this;exact this.2.2 z hz x (mem_cons_self ..)
        have d:=hg.trans x y z WC a;have:=hg.jh z x;omega
       have hs:(y::(m1++m2)).Pairwise (λ a b=>c a b<=0):=by refine Ej.sublist ?_;exact List.Sublist.cons_cons y ((List.Sublist.refl m1).append (sublist_cons_self x m2))
       rw[map_cons,ih _ hp h1.2 hs];have key:∀(m1:List α) (y:α),c y x=0->(∀z∈m1,c z x=0)->f x::(y::(m1++m2)).map f=(y::(m1++x::m2)).map f:=by
        intro m1;induction m1 with
        | nil=>intro y hy _;simp[hf y x hy]
        | cons z m1 ih2=>intro y hy hz;have:=ih2 z (hz z (mem_cons_self ..)) (λ w hw=>hz w (mem_cons_of_mem _ hw));rw[map_cons,hf y x hy];show f x::f x::((z::(m1++m2)).map f)=_;rw[this];simp[hf y x hy]
       exact key m1 y (by have:=hg.jh x y;omega) Hy
end
def rE (b e:Int):Int:=if e≠0/\(b=0\/e < b)then e else b
def dp (l:List Int):Int:=l.foldl rE 0
def nK (u:Nat->Value)(M:List Nat)(σ:Nat->Option Value)(i:Nat)(_:World)(v:Value):Prop:=if i∈M then σ i=some v else v=u i
def oz (σ:Nat->Option Value)(i:Nat)(v:Value):Nat->Option Value:=λ j=>if j=i then some v else σ j
theorem FJ (σ:Nat->Option Value)(i:Nat)(v:Value):oz σ i v i=some v:=by simp[oz]
variable{j:Nat}
theorem aaz(σ:Nat->Option Value) {i:Nat}(v:Value)(h:j≠i):oz σ i v j=σ j:=by simp[oz,h]
def adA (P:Program)(l:List Oper)(u:Nat->Value)(M:List Nat)(G:(Nat->Option Value)->World->Prop)(a0:Act)(i:Nat)(o:Oper):Prop:=
 ∀ρ w σ,oT ρ->G σ w->lO l (nK u M σ) a0.eval ρ w o (tmpsOf o)->(∀e∈eY o,e∈M->(σ e).isSome=true)->(i∈M->σ i=none)->o.guard=none/\
  if i∈M then zJ P o ρ w λ v w'=>G (oz σ i v) w' else(execOp ρ o).run P w=.ok (.value (u i)) w
def OT (P:Program)(l:List Oper)(u:Nat->Value)(M:List Nat)(G:(Nat->Option Value)->World->Prop)(a0:Act):List Oper->Nat->Prop
 | [],_=>True
 | o::rest,i=>adA P l u M G a0 i o/\OT P l u M G a0 rest (i+1)
variable{M:List Nat}
theorem FK{G:(Nat->Option Value)->World->Prop} :∀ {l:List Oper} {k:Nat},OT P L u M G a0 l k->∀i o,l[i]?=some o->adA P L u M G a0 (k+i) o
 | [],_,_,i,o,h=>by simp at h
 | x::l,k,hs,0,o,h=>by simp at h;subst h;exact hs.1
 | x::l,k,hs,i+1,o,h=>by have:=FK hs.2 i o Tal;rwa [show k+1+i=k+(i+1) by omega] at this
section
variable {P:Program} {l zs:List Oper} {Q:Exit->Act->World->Prop} {u:Nat->Value} {M:List Nat} {G:(Nat->Option Value)->World->Prop} {a0:Act} {w0:World} {V:Nat->World->Value->Prop}
theorem zcH.Kav(h:p:=by
 have hK:=xx (V:=V) (λ d=>a.eval (.tmp d)) l 0 a0 (λ i o d hi hd=>by
  rw[Nat.zero_add]
  have ui:i < l.length:=by
   rcases Nat.lt_or_ge i l.length with h' | h'
   ·exact h'
   ·rw[getElem?_eq_none h'] at hi;cases hi
  exact I.new i o d hi (hall i ui) hd) hf
 rw[<- ha] at hK;exact Zby):p:=h
theorem FL {N:Nat}(bh:dO l N l 0=true)(hz:eK (l++zs) zs l.length=true) {listed:Array Bool} {a:Act} {w:World}(hf:bF V (λ a w=>wpList P (l++zs).toArray Q zs a w) l 0 a0 w)(I:Inv l V (λ _ _=>True) a0 w0 (l++zs).length listed a w)
  (h0:bA l.length listed=0):wpAny P .any (l++zs).toArray Q zs.length listed a w:=by
 open zcH in exact ZaO
theorem zgh.Kbo(h:p:=by
 by_cases hjm:i∈M
 ·rw[if_pos hjm] at hstep;refine jt hstep ?_;intro v w' Rq;have hne:∀Kx,Kx≠i->oz σ i v Kx=σ Kx:=λ Kx hi=>aaz σ v hi
  have I':Inv l (nK u M (oz σ i v)) (λ _ _=>True) a0 w0 (l++zs).length listed a w:=I.imp (λ Kx w x h=>by
   unfold nK at*
   by_cases EU:Kx∈M
   ·rw[if_pos EU] at h ⊢
    rw[hne Kx (λ e=>by subst e;rw[hnone EU] at h;cases h)]
    exact h
   ·rw[if_neg EU] at h ⊢;exact h)
  refine ih _ _ _ (oz σ i v) (I'.step bh (λ _ _ _ _ h _=>h) (λ _ _ _ _ _=>trivial) vy zK Bf eZ trivial ?_) Rq ?_ Yu
  ·unfold nK;rw[if_pos hjm];exact FJ σ i v
  ·intro k hk;rw[eG _ _ _ Yt];by_cases hkj:k=i
   ·subst hkj;rw[FJ];simp
   ·rw[if_neg hkj,hne k hkj];exact cg k hk
 ·rw[if_neg hjm] at hstep;refine jt (T:=λ v w'=>v=u i/\w'=w) (aq hstep ⟨rfl,rfl⟩) ?_;rintro v w' ⟨rfl,rfl⟩;refine ih _ _ _ σ (I.step bh (λ _ _ _ _ h _=>h) (λ _ _ _ _ _=>trivial) vy zK Bf eZ trivial ?_) hg ?_ Yu
  ·unfold nK;rw[if_neg hjm]
  ·intro k hk;rw[eG _ _ _ Yt,if_neg (λ e:k=i=>hjm (by rw[<- e];exact hk))];exact cg k hk):p:=h
theorem zao.KW(h:p:=by
 have hst:=FK hs i oj vy;rw[Nat.zero_add] at hst;have fy:=Inv.reads bh I vy Bf eZ (tmpsOf oj) (λ _ h=>h)
 have hnone:i∈M->σ i=none:=λ hjm=>by
  cases BP:σ i with
  | none=>rfl
  | some v=>have:=(cg i hjm).2 (by rw[BP];rfl);rw[Bf] at this;cases this
 obtain⟨hgd,hstep⟩:=hst a.eval w σ (mQ a) hg fy (λ e he hem=>(cg e hem).1 (eZ e he)) hnone;open zgh in exact ZdD):p:=h
theorem zb {id:Nat} {ops:List Oper}(zs:List Oper)(l:List Oper)(kG:ops=l++zs)(u:Nat->Value)(M:List Nat)(G:(Nat->Option Value)->World->Prop)(od:∀σ w,G σ w->G σ w.drew)(hG:G (λ _=>none) w0)
  (hm:P.follows .mixedOrders=true) (bh:dO l a0.tmps.size l 0=true) (hz:eK (l++zs) zs l.length=true) (Kl:M.all (λ Kx=>decide (Kx < l.length))=true)
  (hs:OT P l u M G a0 l 0) (hf:∀σ w,(∀Kx∈M,(σ Kx).isSome=true)->G σ w->bF (nK u M σ) (λ a w=>wpList P ops.toArray Q zs a w) l 0 a0 w):(Code.region id ops.toArray true).wp P Q a0 w0:=by
 subst kG
 have main:∀(fuel:Nat) (listed:Array Bool) (a:Act) (w:World) (σ:Nat->Option Value),Inv l (nK u M σ) (λ _ _=>True) a0 w0 (l++zs).length listed a w->G σ w->(∀Kx∈M,(listed.getD Kx false=true↔(σ Kx).isSome=true))->fuel=bA l.length listed+zs.length->wpAny P .any (l++zs).toArray Q fuel listed a w:=by
  intro fuel
  induction fuel with
  | zero=>
    intro listed a w σ I hg cg hfu;have h0:bA l.length listed=0:=by omega
    have hz0:zs.length=0:=by omega
    have hall:=eb h0;have:=FL bh hz (hf σ w (λ Kx hi=>(cg Kx hi).1 (hall Kx (of_decide_eq_true (List.all_eq_true.1 Kl Kx hi)))) hg) I h0;rwa [hz0] at this
  | succ fuel ih=>
    intro listed a w σ I hg cg hfu;by_cases h0:bA l.length listed=0
    ·have hall:=eb h0;have:=FL bh hz (hf σ w (λ Kx hi=>(cg Kx hi).1 (hall Kx (of_decide_eq_true (List.all_eq_true.1 Kl Kx hi)))) hg) I h0;exact Zf4
    ·open zao in exact Zae
 refine wp_region_any hm ?_;have:=main (l++zs).toArray.size (Array.replicate (l++zs).toArray.size false) a0 w0.drew (λ _=>none) ⟨trivial,rfl,rfl,λ _ _=>rfl,(λ Kx o d _ h=>by rw[br] at h;cases h),(λ Kx o _ h=>by rw[br] at h;cases h),by simp,λ Kx _=>br _ _⟩ (od _ _ hG) (λ Kx _=>by rw[br];simp) (by
  have:bA l.length (Array.replicate (l++zs).toArray.size false)=l.length:=by
   unfold bA
   rw[List.filter_eq_self.2 (λ Kx _=>by rw[br];rfl),length_range]
  rw[this];simp)
 exact this
end
open Go.ChangeShapes Go.WideShapes Go.ChangeAt
structure Cel where
 i:Nat
 T:TypeId
 c:Array Value
 s:Nat
 d:Array Value
section
variable {P:Program} {Q:Exit->Act->World->Prop} {a0:Act} {w0:World}
end
section
variable {P:Program} {l:List Oper} {u:Nat->Value} {X:List Cel} {CL:List Nat} {a0:Act} {B:Nat} {w0:World} {i:Nat} {o:Oper}
end
variable{q:Nat}{old:Array Value}
theorem afG{w:World}  {T:TypeId} (h:aC w q T old)(cs:Array Value):aC (w.setRow q cs) q T cs:=setRow_heap w q old cs T (0,0) h
variable{w':World}{B:Nat}
theorem Yv{w:World} (h:Below B w w')(hq:B<=q)(cs:Array Value):Below B w (w'.setRow q cs):=below_setRow h hq cs
def zW (w:World):Prop:=Lib.TabIs Tryz.prog w "internal/strconv.uint64pow10" .u64 Lib.pow10Tab
theorem zW.later{w:World}(h:zW w)(hb:aj w w'):zW w':=by
 unfold zW Lib.TabIs World.var? at*
 cases hg:Tryz.prog.globalNamed "internal/strconv.uint64pow10" with
 | none=>rw[hg] at h;simp at h
 | some g=>
   rw[hg] at h;simp only[Option.bind_some] at h ⊢
   have:g < w.heap.size:=by
    rcases Nat.lt_or_ge g w.heap.size with hlt | vC
    ·exact hlt
    ·rw[Array.getElem?_eq_none vC] at h;simp at h
   rw[hb.block g this];exact h
theorem nd (w:World):∀k,aj w (w.drewN k)
 | 0=>Below.refl _ _
 | k+1=>(nd w k).drew
theorem OU (w:World)(k:Nat)(os:Array Obj):aj w («Sort».grow (w.drewN k) os):=by
 have h:=nd w k;refine⟨h.os,h.tape,h.output,?_,λ i hi=>?_⟩
 ·have:=h.size;simp[«Sort».grow]
 ·rw[<- h.block i hi];have:=h.size;simp only[«Sort».grow];rw[Array.getElem?_append_left WC]
theorem xL (a b:Int)(w:World):ar 97 #[ag a,ag b] w λ e w'=>e=.returned (.bool (cj a b))/\aj w w':=by
 have hb:=Below.refl w.heap.size w;unfold cj;by_cases h1:a=0
 ·subst h1;go_enter Tryz.func97,Tryz.ntmps97;exact Zfn
 have t1:(a==0)=false:=by simp[h1]
 have t1':decide (a=0)=false:=by simp[h1]
 have T1:=aa t1;by_cases h2:b=0
 ·subst h2;clear h1;go_enter Tryz.func97,Tryz.ntmps97;go_wp2_with fail;go_ret;exact⟨by rw[T1.ae];rfl,hb⟩
 have t2:(b==0)=false:=by simp[h2]
 have t2':decide (b=0)=false:=by simp[h2]
 have T2:=aa t2;clear h1 h2;go_enter Tryz.func97,Tryz.ntmps97;go_wp2_with fail;go_ret;exact⟨by rw[T1.ae,T2.ae];simp,hb⟩
def nL (r:Int×Int):Int:=if r.2=0/\cj r.1 1=false then 40 else r.2
variable{t:Int}
theorem FM:nL (t,0)=if cj t 1=false then 40 else 0:=by
 unfold nL;by_cases h:cj t 1=false
 ·rw[if_pos h,if_pos ⟨rfl,h⟩]
 ·rw[if_neg h,if_neg (λ h2=>h h2.2)]
variable{e:Int}
theorem BQ(h:e≠0):nL (t,e)=e:=if_neg (λ h2=>h h2.1)
theorem uz (t e:Int)(w:World):ar 58 #[ag t,af e] w λ e_ w'=>e_=.returned (af (nL (t,e)))/\aj w w':=by
 obtain⟨r,hr⟩:∃r,r=nL (t,e):=⟨_,rfl⟩;rw[<- hr];by_cases h1:e=0
 ·subst h1;rw[FM] at hr;have hg:=xL t 1;cases hv:cj t 1
  ·rw[hv] at hg hr;have hr2:r=40:=hr;exact Zd9
  ·rw[hv] at hg hr;have hr2:r=0:=hr;exact Zd9
 ·rw[BQ h1] at hr;subst hr;have t1:(r==0)=false:=by simp[h1]
  have t1':decide (r=0)=false:=by simp[h1]
  have hb:=Below.refl w.heap.size w;clear h1;go_enter Tryz.func58,Tryz.ntmps58;exact Zfn
def iV (k:Int):ByteArray:=⟨#[35]⟩++⟨(Lib.itoa k).toArray⟩
def Lp (k:Int):Ex:=⟨2,⟨0,0,⟨#[]⟩⟩,iV k,0,none,0,0⟩
theorem zbM.Kal(h:p:=by exact bodyPost_ret (v:=.agg #[ag 2,ag 0,af 0,au,.string (({ data:= #[35] }:ByteArray)++ { data:=(Lib.itoa k).toArray }),af 0,az]) (by simp[results,Tryz.results60,go_sem,z0,z1,x2,x3,x4,x5,x6];done) rfl ⟨rfl,hb3⟩):p:=h
theorem zf4.Kbj(h:p:=by
 have wI:=aa hg;clear hg;go_wp2_with fail;refine(Tryz.strconv_Itoa k HK.ae.1 HK.ae.2 W1 HE.ae).mono ?_;rintro e w1 ⟨rfl,kk,os,rfl⟩;have b1:=OU W1 kk os;generalize «Sort».grow (W1.drewN kk) os=Kx at*;have H2:=aa (HX.later b1);have HB:=aa (ai.then bb b1);have hgb:w.heap.size<=g:=by rw[wI.ae];exact Nat.le_refl _
 have ze:=aa hgb;have EXI:(Tryz.prog.info? 46).map (·.size)=some 7:=by kernel_rfl
 have HEX:=aa EXI;clear HX bb b1 hgb EXI;go_wp2_with (refine wpList_store_row rfl 46 (.tmp 2) (.tmp 6) rfl g #[ag 2,ag 0,af 0,au,.string (({ data:= #[35] }:ByteArray)++ { data:=(Lib.itoa k).toArray }),af 0,az] rfl rfl 46 di H2.ae HEX.ae rfl Vx ?_);rotate_left
 ·simp only[Act.put];have k1:=afG H2.ae #[ag 2,ag 0,af 0,au,.string (({ data:= #[35] }:ByteArray)++ { data:=(Lib.itoa k).toArray }),af 0,az];have hb3:=Yv HB.ae ze.ae #[ag 2,ag 0,af 0,au,.string (({ data:= #[35] }:ByteArray)++ { data:=(Lib.itoa k).toArray }),af 0,az];generalize World.setRow _ _ _=W2 at*;open zbM in exact ZaD
 ·exfalso;have:=Lib.itoa_length_le k HK.ae.1 HK.ae.2;omega):p:=h
theorem pz (k:Int)(h0: -9223372036854775808<=k)(h1:k<=9223372036854775807)(w:World)(hE:zW w):ar 60 #[af k] w λ e w'=>e=.returned (mK (Lp k))/\aj w w':=by have bb:=ah w (.cells di 46);have HX:=aC.new w 46 di;have HE:=aa (hE.later bb);have HK:=aa (And.intro h0 h1);clear hE h0 h1;go_enter Tryz.func60,Tryz.ntmps60;open zf4 in exact Zdm
mutual
def Tr.depth:Tr->Int
 | .mk op v name width args=>RowKit.wrap64 (Tr.iB args+1)
def Tr.iB:List Tr->Int
 | []=>0
 | t::ts=>max t.depth (Tr.iB ts)
end
def afI (f:FuncId)(w:World)(y:Ex)(b:Int):Prop:=∀W,aj w W->ar f #[.agg (ay y)] W λ e w'=>e=.returned (af b)/\aj W w'
def zX:List Int->Int
 | []=>0
 | a::l=>max a (zX l)
theorem xM:∀(l:List Int) (a:Int),zX (l++ [a])=max (zX l) a
 | [],a=>by simp only[nil_append,zX];omega
 | b::l,a=>by simp only[cons_append,zX,xM l a];omega
theorem zg:∀ts:List Tr,Tr.iB ts=zX (ts.map Tr.depth)
 | []=>by simp[Tr.iB,zX]
 | t::ts=>by simp[Tr.iB,zX,zg ts]
theorem zdO.KaI(h:p:=by
 generalize hm:zX ((args.take i).map (·.2))=m;have HM:=aa hm;clear hm;by_cases hmd:m < v
 ·exact ZcA
 ·exact ZcA):p:=h
theorem zhb.KbL(h:p:=by
 clear x6;go_loopw [3,9] (λ m iv wr=>∃i:Nat,i<=args.length/\iv=af i/\m=af (zX ((args.take i).map (·.2)))/\aj W wr) (λ _ iv _=>args.length - (intOf iv).toNat);case atStart=>exact ZgZ
 case round=>
  obtain⟨i,hi,rfl,rfl,hW⟩:=hrel;have x6:=(HX.later hW).cell 6;simp only[Uaa] at x6;by_cases hlt:i < args.length
  ·obtain⟨b,off,rfl,kE,hex⟩:=(HA.ae.below (ai.then HB.ae hW)).at_ (show i <(args.map (·.1)).length by simpa using hlt);have jn:(args.map (·.1))[i]' Tan=args[i].1:=by simp
   open zdO in exact Zbn
  ·obtain rfl:i=args.length:=by omega
   have lS:args.take args.length=args:=take_length;rw[lS];generalize hmx:zX (args.map (·.2))=m;have Pn:=aa hmx;clear hmx;exact Zh2):p:=h
theorem OV (JW:Int)(Kx:Val)(kZ:ByteArray)(gP:Int)(A:Option Addr)(c:Nat)(args:List (Ex×Int))(w:World)(hl:args.length<=1599289640356)(hA:RE w w.heap.size A (args.map (·.1)))(hE:∀a∈args,afI 57 w a.1 a.2):ar 57 #[.agg #[ag JW,ag Kx.k,af Kx.n,.string Kx.s,.string kZ,af gP,.slice A args.length c]] w λ e w'=>e=.returned (af (wrap64 (zX (args.map (·.2))+1)))/\aj w w':=by have HA:=aa hA;have HE:=aa hE;clear hA hE;have HX:=aC.new w 46 #[ag JW,ag Kx.k,af Kx.n,.string Kx.s,.string kZ,af gP,.slice A args.length c];have hb0:=ah w (.cells #[ag JW,ag Kx.k,af Kx.n,.string Kx.s,.string kZ,af gP,.slice A args.length c] 46);go_enter Tryz.func57,Tryz.ntmps57;go_upto_region 1 with fail;generalize w.alloc _=W at*;have HB:=aa hb0;clear hb0;open zhb in exact ZeK
theorem Tr.Yw (t:Tr)(y:Ex)(w:World)(bh:t.ok)(hat:t.at_ w (Old w) y):∀W,aj w W->ar 57 #[mK y] W λ e w'=>e=.returned (af t.depth)/\aj W w':=by refine Tr.tell Tr.depth (λ _=>True) (λ W y r=>ar 57 #[mK y] W λ e w'=>e=.returned (af r)/\aj W w') (λ _ _ _ _ _ _ _ _=>trivial) ?_ t y w bh trivial hat;intro op v name width ts A c args w bh _ hlen hm hA _ hE;have k:=OV op v name width A c args w (by unfold Tr.ok at bh;rw[hlen];exact bh.2.1) hA hE;unfold Tr.depth;rw[zg,<- hm];exact k
def t5V (y:Ex)(gp:Nat)(cV:Value)(t e:Int):Nat->World->Value->Prop
 | 0,_,v=>v=.agg (ay y)
 | 1,_,v=>v=aw gp
 | 2,_,v=>v=aw gp
 | 3,_,v=>v=bj gp 8
 | 4,_,v=>v=cV
 | 5,_,v=>v=.tuple #[ag t,af e]
 | 6,_,v=>v=.tuple #[ag t,af e]
 | 7,_,v=>v=ag t
 | 8,_,v=>v=af e
 | 9,_,v=>v=ag t
 | 10,_,v=>v=af e
 | _,_,_=>False
theorem xN (y:Ex)(gp:Nat)(cV:Value)(t e:Int):∀i w w' v,t5V y gp cV t e i w v->ai w w'->t5V y gp cV t e i w' v:=by exact ZdW
theorem ziL.Kcn(h:p:=by
 replace q5: .tuple #[ag bt,af er]=a5:=Eq.symm q5;subst q5;replace q6: .tuple #[ag bt,af er]=a6:=Eq.symm q6;subst q6;replace q7: ag bt=a7:=Eq.symm q7;subst q7;replace q8: af er=a8:=Eq.symm q8;subst q8;replace q3: ag bt=a9:=Eq.symm q3;subst q3;replace Ul: af er=FN:=Eq.symm Ul;subst Ul;simp only[bF,Act.put,Uac];have ek:=ai.then hB (ai.then hb (ai.then MI hL));have t1:(er != 0)=true:=by have:=Ol.ae;simpa using this
 have t2:decide (er=0)=false:=by have:=Ol.ae;simpa using this
 clear xo k1 Jm Qq MI hL hb hB;go_wp2_with fail;exact bodyPost_ret (v:=.tuple #[ag 0,af er]) Tao rfl ⟨rfl,ek⟩):p:=h
theorem zg5.KbJ(h:p:=by
 refine bC 11 (t5V y gp cV bt er) (xN _ _ _ _ _) Vx Vx Vx ?_ ?_
 ·exact Za4
 open ziL in exact Zgo):p:=h
theorem zf1.Kbi(h:p:=by clear Hw;generalize bad=y at*;unfold cy at hex;open zg5 in exact ZeH):p:=h
theorem zeh.KaN(h:p:=by
 go_loopw [6,15] (λ kv Kx wr=>∃i:Nat,i<=args.length/\Kx=af i/\aI dQ 5 1 wr W1.heap.size kv ((args.take i).map (·.2))/\aj W1 wr) (λ _ Kx _=>args.length - (intOf Kx).toNat);case atStart=>exact Zc7
 case round=>
  obtain⟨i,hk,rfl,hp,hb⟩:=hrel;have HP:=aa hp;clear hp;rcases Nat.lt_or_ge i args.length with hlt | vC
  ·have zQ:i < n:=by have:=HN.ae;omega
   obtain⟨b,off,rfl,kE,hex⟩:=(HA.ae.below hb).at_ (show i <(args.map (·.1)++bad::post).length by simp;omega);have jn:(args.map (·.1)++bad::post)[i]' Tab=args[i].1:=by rw[getElem_append_left Tan];simp
   exact ZaA
  ·open zf1 in exact Zdl):p:=h
theorem Uj (gp:Nat)(cV:Value)(op:Int)(xv:Val)(name:ByteArray)(width:Int)(A:Option Addr)(n c:Nat)(args:List (Ex×Int))(bad:Ex)(bt er:Int)(post:List Ex)(w:World)(sQ:gp < w.heap.size)(Yx:w.cell? ⟨gp,8,none⟩=some cV)(hn:args.length+1+post.length=n)(hl:n<=1599289640356)(hA:RE w w.heap.size A (args.map (·.1)++bad::post))(hE:∀a∈args,pj w cV a.1 a.2 0)(jS:pj w cV bad bt er)(her:er≠0):
  ar 153 #[aw gp,.agg #[ag op,ag xv.k,af xv.n,.string xv.s,.string name,af width,.slice A n c]] w λ en w'=>en=.returned (.tuple #[ag 0,af er])/\aj w w':=by have HN:=aa hn;have Hw:=aa jS;have Ol:=aa her;clear hn jS her;open zeh in exact Zbx
def RK (w:World)(B:Nat)(A:Option Addr)(l:List Int):Prop:=l=[]\/∃g,A=some ⟨g,0,none⟩/\g < B/\∀(i:Nat) x,l[i]?=some x->w.cell? ⟨g,i,none⟩=some (ag x)
theorem YB{w:World} {A:Option Addr} {l:List Int}(h:l=[]\/∃g,A=some ⟨g,0,none⟩/\g < w.heap.size/\∀i x j u,l[i]?=some x->j < 1->(dQ x)[j]?=some u->w.cell? ⟨g,i*1+j,none⟩=some u):RK w w.heap.size A l:=by
 rcases h with h |⟨g,h1,h2,h3⟩
 ·exact .inl h
 ·exact .inr ⟨g,h1,h2,λ i x hx=>by have:=h3 i x 0 _ hx WC rfl;simpa using this⟩
theorem RK.at_{w:World}  {A:Option Addr} {l:List Int}(h:RK w B A l) {k:Nat}(hk:k < l.length):∃g,A=some ⟨g,0,none⟩/\g < B/\w.cell? ⟨g,k,none⟩=some (ag l[k]):=by
 rcases h with h |⟨g,h1,h2,h3⟩
 ·subst h;simp at hk
 ·exact⟨g,h1,h2,h3 k _ (getElem?_eq_getElem hk)⟩
def jD (op:Int)(ks:List Int):Int×Int:=
 if (ks.length:Int)≠iA op then(0,21)
 else if (op=23\/op=26)/\cj (ks.getD 0 0) 2=false then(0,40)
 else if ks.length=2/\cj (ks.getD 1 0) 2=false then(0,40)
 else if ks.length=0\/op=23\/op=26\/op=22 then(2,0)
 else(ks.getD 0 0,0)
theorem Lr {op:Int}:iA op=0\/iA op=1\/iA op=2:=by
 unfold iA Ic;repeat' split
 all_goals simp
theorem Ls{op:Int}(h:op=23\/op=26):iA op=1:=by
 rcases h with rfl | rfl <;> rfl
theorem OW:iA 22=1:=rfl
theorem zjc.Kcz(h:p:=by clear gX;exact Zfv):p:=h
theorem zjd.Kcz(h:p:=by have c0':=(b3.cell (p:=⟨g0,0,none⟩) hg0).trans HC0.ae;clear gX;go_wp2_with fail;exact bodyPost_ret (v:=.tuple #[ag k0,af 0]) Tao rfl ⟨rfl,ai.then fH.ae b3⟩):p:=h
theorem zei.KaN(h:p:=by
 go_loopw [6,15] (λ kv Kx wr=>∃i:Nat,i<=args.length/\Kx=af i/\aI dQ 5 1 wr W1.heap.size kv ((args.take i).map (·.2))/\aj W1 wr) (λ _ Kx _=>args.length - (intOf Kx).toNat);case atStart=>exact Zc7
 case round=>
  obtain⟨i,hk,rfl,hp,hb⟩:=hrel;have HP:=aa hp;clear hp;rcases Nat.lt_or_ge i args.length with hlt | vC
  ·have zQ:i < n:=by have:=HN.ae;omega
   obtain⟨b,off,rfl,kE,hex⟩:=(HA.ae.below hb).at_ (show i <(args.map (·.1)).length by simpa using hlt);have jn:(args.map (·.1))[i]' Tan=args[i].1:=by simp
   exact ZaA
  ·have lS:args.take i=args:=take_of_length_le vC;have zQ:¬i < n:=by have:=HN.ae;omega
   rw[lS] at HP;obtain⟨A9,c9,hu9,hKC⟩:=ej (f:=dQ) (size:=1) (λ _=>rfl) HP.ae;have Ax:(args.map (·.2)).length=n:=by rw[length_map];exact HN.ae
   rw[Ax] at hu9;have HRK:=aa (YB hKC);subst hu9;have bB:=HX.later hb;have ek:=ai.then hB hb;have fH:=aa ek;generalize qj:args.map (·.2)=ks at*;have WM:=aa Ax;clear hKC hB HX qj Ax ek HP Yz BR HA HE lS vC;have gX:=bB.cell 0;simp only[Uaa] at gX;go_upto_region 10 with fail
   obtain⟨sb,S7⟩:∃sb:Bool,(sb=true->op=23\/op=26)/\(sb=false->op≠23/\op≠26):=by
    by_cases h:op=23\/op=26
    ·exact Zhp
    ·exact⟨false,λ h=> Tah,λ _=>⟨λ h2=>h (.inl h2),λ h2=>h (.inr h2)⟩⟩
   have tI:=aa S7;clear S7;go_cut [11] (λ sv wx=>sv=.bool sb/\wx=wr)
   case first=>
    cases sb
    ·obtain⟨h1,h2⟩:=tI.ae.2 rfl;have s1:(op==23)=false:=by simp[h1]
     have s2:(op==26)=false:=by simp[h2]
     have s3:decide (op=23)=false:=by simp[h1]
     have s4:decide (op=26)=false:=by simp[h2]
     clear h1 h2;go_wp2_with fail;go_meet;exact ZfI
    ·rcases tI.ae.1 rfl with h1 | h1
     ·have s1:(op==23)=true:=by simp[h1]
      have s3:decide (op=23)=true:=by simp[h1]
      clear h1;go_wp2_with fail;go_meet;exact ZfI
     ·have s1:(op==23)=false:=by simp[h1]
      have s2:(op==26)=true:=by simp[h1]
      have s3:decide (op=23)=false:=by simp[h1]
      have s4:decide (op=26)=true:=by simp[h1]
      clear h1;go_wp2_with fail;go_meet;exact ZfI
   case rest=>
   obtain⟨rfl,rfl⟩:=hcut;have Un:=Yl op;clear gX hb zQ hk;by_cases TL:(n:Int)=iA op
   case neg=>
    have hr:rt=(0,21):=by rw[Lt.ae];unfold jD;rw[WM.ae];exact if_pos TL
    subst hr;obtain⟨ao,hao⟩:∃ao,ao=iA op:=⟨_,rfl⟩;rw[<- hao] at Un TL;have t1:((n:Int) != ao)=true:=by simp[TL]
    have t2:decide ((n:Int)=ao)=false:=by simp[TL]
    have t3:((n:Int)==ao)=false:=by simp[TL]
    have Io:=aa Un;have gX:=bB.cell 0;simp only[Uaa] at gX;clear Un TL hao;go_wp2_with fail;refine(Io.ae _).mono ?_;rintro e w2 ⟨rfl,b3⟩;go_wp2_with fail;exact bodyPost_ret (v:=.tuple #[ag 0,af 21]) Tao rfl ⟨rfl,ai.then fH.ae b3⟩
   have Uo:=WM.ae;have S8:=aa TL;rw[<- TL] at Un;have uA:n=0\/n=1\/n=2:=by rcases @Lr op with h | h | h <;> omega
   have Io:=aa Un;clear Un TL;have gX:=bB.cell 0;simp only[Uaa] at gX;rcases uA with rfl | rfl | rfl
   ·have qj:ks=[]:=eq_nil_of_length_eq_zero Uo;subst qj;clear Uo;have S7:sb=false:=by exact Zic
    subst S7;have hr:rt=(2,0):=by rw[Lt.ae];unfold jD;rw[if_neg (λ h=>h S8.ae),if_neg (λ h=>by rcases tI.ae.2 rfl with ⟨a,b⟩;rcases h.1 with c | c;exact a c;exact b c),if_neg (λ h=>by cases h.1),if_pos (.inl rfl)]
    subst hr;go_wp2_with fail;refine(Io.ae _).mono ?_;rintro e w2 ⟨rfl,b3⟩;exact Zfv
   ·obtain⟨k0,rfl⟩:∃k0,ks=[k0]:=by
     match ks,Uo with
     | [k0],_=>exact⟨k0,rfl⟩
    clear Uo;obtain⟨g0,rfl,hg0,hc0⟩:=HRK.ae.at_ (show 0 < [k0].length by simp);have hc0:wc.cell? ⟨g0,0,none⟩=some (ag k0):=hc0;have HC0:=aa hc0;clear hc0;cases sb
    ·by_cases Up:op=22
     ·have hr:rt=(2,0):=by rw[Lt.ae];unfold jD;rw[if_neg (λ h=>h S8.ae),if_neg (λ h=>by rcases tI.ae.2 rfl with ⟨a,b⟩;rcases h.1 with c | c;exact a c;exact b c),if_neg (λ h=>by cases h.1),if_pos (.inr (.inr (.inr Up)))]
      subst hr;have s1:(op==22)=true:=by simp[Up]
      have s2:decide (op=22)=true:=by simp[Up]
      open zjc in exact Zhg
     ·have hr:rt=(k0,0):=by rw[Lt.ae];unfold jD;rw[if_neg (λ h=>h S8.ae),if_neg (λ h=>by rcases tI.ae.2 rfl with ⟨a,b⟩;rcases h.1 with c | c;exact a c;exact b c),if_neg (λ h=>by cases h.1),if_neg (λ h=>by rcases tI.ae.2 rfl with ⟨a,b⟩;rcases h with c | c | c | c;cases c;exact a c;exact b c;exact Up c)];rfl
      subst hr;have s1:(op==22)=false:=by simp[Up]
      have s2:decide (op=22)=false:=by simp[Up]
      open zjd in exact Zhg
    ·have hgo:=xL k0 2;have aaA:=tI.ae.1 rfl;cases hv:cj k0 2
     ·have hr:rt=(0,40):=by rw[Lt.ae];unfold jD;rw[if_neg (λ h=>h S8.ae),if_pos ⟨aaA,hv⟩]
      subst hr;rw[hv] at hgo;have WN:=aa hgo;clear hgo hv aaA;go_wp2_with fail;refine(Io.ae _).mono ?_;rintro e w2 ⟨rfl,b3⟩;have c0':=(b3.cell (p:=⟨g0,0,none⟩) hg0).trans HC0.ae;exact Zdv
     ·have hr:rt=(2,0):=by rw[Lt.ae];unfold jD;rw[if_neg (λ h=>h S8.ae),if_neg (λ h=>by have:=h.2;rw[show [k0].getD 0 0=k0 from rfl,hv] at this;cases this),if_neg (λ h=>by cases h.1),if_pos (by rcases aaA with h | h;exact .inr (.inl h);exact .inr (.inr (.inl h)))]
      subst hr;rw[hv] at hgo;have WN:=aa hgo;clear hgo hv aaA;go_wp2_with fail;refine(Io.ae _).mono ?_;rintro e w2 ⟨rfl,b3⟩;have c0':=(b3.cell (p:=⟨g0,0,none⟩) hg0).trans HC0.ae;clear gX;go_wp2_with fail;refine(WN.ae _).mono ?_;rintro e KK ⟨rfl,b2⟩;go_wp2_with fail;exact bodyPost_ret (v:=.tuple #[ag 2,af 0]) Tao rfl ⟨rfl,ai.then (ai.then fH.ae b3) b2⟩
   ·obtain⟨k0,Lw,rfl⟩:∃k0 Lw,ks=[k0,Lw]:=by
     match ks,Uo with
     | [k0,Lw],_=>exact⟨k0,Lw,rfl⟩
    clear Uo;have S7:sb=false:=by exact Zic
    subst S7;have Up:op≠22:=λ h=>by have h1:=S8.ae;rw[h,OW] at h1;omega
    obtain⟨g0,rfl,hg0,hc0⟩:=HRK.ae.at_ (show 0 < [k0,Lw].length by simp);obtain⟨g1,hg1,_,hc1⟩:=HRK.ae.at_ (show 1 < [k0,Lw].length by simp);injection hg1 with hg1;injection hg1 with hg1 _ _;subst hg1;have hc0:wc.cell? ⟨g0,0,none⟩=some (ag k0):=hc0;have hc1:wc.cell? ⟨g0,1,none⟩=some (ag Lw):=hc1;have HC0:=aa hc0;have NA:=aa hc1;have s1:(op==22)=false:=by simp[Up]
    have s2:decide (op=22)=false:=by simp[Up]
    have H22:=aa Up;clear hc0 hc1 Up;have hgo:=xL Lw 2;cases hv:cj Lw 2
    ·have hr:rt=(0,40):=by rw[Lt.ae];unfold jD;rw[if_neg (λ h=>h S8.ae),if_neg (λ h=>by rcases tI.ae.2 rfl with ⟨a,b⟩;rcases h.1 with c | c;exact a c;exact b c),if_pos ⟨rfl,hv⟩]
     subst hr;rw[hv] at hgo;have WN:=aa hgo;clear hgo hv;go_wp2_with fail;refine(Io.ae _).mono ?_;rintro e w2 ⟨rfl,b3⟩;have c1':=(b3.cell (p:=⟨g0,1,none⟩) hg0).trans NA.ae;exact Zdv
    ·have hr:rt=(k0,0):=by rw[Lt.ae];unfold jD;rw[if_neg (λ h=>h S8.ae),if_neg (λ h=>by rcases tI.ae.2 rfl with ⟨a,b⟩;rcases h.1 with c | c;exact a c;exact b c),if_neg (λ h=>by have:=h.2;rw[show [k0,Lw].getD 1 0=Lw from rfl,hv] at this;cases this),if_neg (λ h=>by rcases tI.ae.2 rfl with ⟨a,b⟩;rcases h with c | c | c | c;cases c;exact a c;exact b c;exact H22.ae c)];rfl
     subst hr;rw[hv] at hgo;have WN:=aa hgo;clear hgo hv;go_wp2_with fail;refine(Io.ae _).mono ?_;rintro e w2 ⟨rfl,b3⟩;have c1':=(b3.cell (p:=⟨g0,1,none⟩) hg0).trans NA.ae;clear gX;go_wp2_with fail;refine(WN.ae _).mono ?_;rintro e KK ⟨rfl,b2⟩;have c10:=((bB.later b3).later b2).cell 0;simp only[Uaa] at c10;have c0':=(b2.cell (p:=⟨g0,0,none⟩) (Nat.lt_of_lt_of_le hg0 b3.size)).trans ((b3.cell (p:=⟨g0,0,none⟩) hg0).trans HC0.ae);clear c1';go_wp2_with fail;exact bodyPost_ret (v:=.tuple #[ag k0,af 0]) Tao rfl ⟨rfl,ai.then (ai.then fH.ae b3) b2⟩):p:=h
theorem Um (gp:Nat)(cV:Value)(op:Int)(xv:Val)(name:ByteArray)(width:Int)(A:Option Addr)(n c:Nat)(args:List (Ex×Int))(w:World)(sQ:gp < w.heap.size)(Yx:w.cell? ⟨gp,8,none⟩=some cV)(hn:args.length=n)(hl:n<=1599289640356)(hA:RE w w.heap.size A (args.map (·.1)))(hE:∀a∈args,pj w cV a.1 a.2 0):
  ar 153 #[aw gp,.agg #[ag op,ag xv.k,af xv.n,.string xv.s,.string name,af width,.slice A n c]] w λ en w'=>en=.returned (.tuple #[ag (jD op (args.map (·.2))).1,af (jD op (args.map (·.2))).2])/\aj w w':=by have HN:=aa hn;clear hn;obtain⟨rt,hrt⟩:∃rt,rt=jD op (args.map (·.2)):=⟨_,rfl⟩;rw[<- hrt];have Lt:=aa hrt;clear hrt;open zei in exact Zbx
def fY (cols:List aZ)(op:Int)(args:List Tr):Int×Int:=
 if gQ (Tr.types cols args)≠0 then(0,gQ (Tr.types cols args))else jD op ((Tr.types cols args).map (·.1))
variable{CA:Option Addr}{cc:Nat}
theorem Tr.Lu{cols:List aZ}  (cg:cols.length<=140737488355328)(gp:Nat):∀(t:Tr) (y:Ex) (w:World),t.ok->t.at_ w (Old w) y->RC w w.heap.size CA cols->gp < w.heap.size->w.cell? ⟨gp,8,none⟩=some (.slice CA cols.length cc)->
  ar 153 #[aw gp,mK y] w λ e w'=>e=.returned (.tuple #[ag (fY cols t.op t.args).1,af (fY cols t.op t.args).2])/\aj w w'
 | .mk op v name width ts,y,w,bh,hat,hC,sQ,Yx=>by
   unfold Tr.at_ at hat;obtain⟨h1,h2,h3,h4,h5,ys,h6,h7⟩:=hat;unfold Tr.ok at bh;obtain⟨l,fq,hl2,uu⟩:=Tr.Bz cols CA cc cg ts ys w bh.2.2.2.2.2 h7 hC;obtain⟨JW,yv,kZ,gP,yA,yn,yc⟩:=y;dsimp only at h1 h2 h3 h4 h5 h6;subst h1 h2 h3 h4 h5;have hlen:l.length=ts.length:=by
    have:(l.map (·.1)).length=ys.length:=by rw[fq]
    rw[length_map,h7.length] at this;exact this
   have hA:RE w w.heap.size yA (l.map (·.1)):=by rw[fq];exact h6.old
   have hn:=bh.2.1;show ar 153 #[aw gp,.agg #[ag JW,ag yv.k,af yv.n,.string yv.s,.string kZ,af gP,.slice yA ts.length yc]] w λ e w'=>e=.returned (.tuple #[ag (fY cols JW ts).1,af (fY cols JW ts).2])/\aj w w'
   unfold fY;rw[<- hl2];rcases pn l with h0 |⟨pre,bad,post,rfl,Ek,jS⟩
   ·have hf:gQ (l.map (·.2))=0:=rq λ a ha=>by obtain⟨z,hz,rfl⟩:=List.mem_map.1 ha;exact h0 z hz
    rw[if_neg (by rw[hf];decide)];have k:=Um gp (.slice CA cols.length cc) JW yv kZ gP yA ts.length yc (l.map λ a=>(a.1,a.2.1)) w sQ Yx (by rw[length_map];exact hlen) hn Tat (λ a ha=>by
     obtain⟨z,hz,rfl⟩:=List.mem_map.1 ha
     have:=uu z hz
     rw[h0 z hz] at this
     exact this)
    have hm:(l.map λ a=>(a.1,a.2.1)).map (·.2)=(l.map (·.2)).map (·.1):=by simp[Function.comp_def]
    rw[hm] at k;exact k
   ·have hbE:=uu bad Tac;have hf:gQ ((pre++bad::post).map (·.2))=bad.2.2:=by rw[map_append,map_cons];exact xD (λ a ha=>by obtain⟨z,hz',rfl⟩:=List.mem_map.1 ha;exact Ek z hz') jS
    rw[if_pos (by rw[hf];exact jS),hf];exact Uj gp (.slice CA cols.length cc) JW yv kZ gP yA ts.length yc (pre.map λ a=>(a.1,a.2.1)) bad.1 bad.2.1 bad.2.2 (post.map (·.1)) w sQ Yx (by rw[<- hlen];simp;omega) hn Tat (λ a ha=>by
     obtain⟨z,hz',rfl⟩:=List.mem_map.1 ha
     have:=uu z (by simp[hz'])
     rw[Ek z hz'] at this
     exact this) hbE jS
def Qy.all (q:Qy):List Tr:=q.items.map (·.1)++(q.cK++q.aL++q.ft)++q.ord.map (·.1)
def Ep (k:Nat):Tr:=.mk 2 aP (iV k) 0 []
structure dE where
 aM:List Tr
 aL:List aZ
def rF (cols:List aZ)(v:Val)(name:ByteArray)(width:Int)(n:Nat):Int:=
 let e:=(Tr.type cols (.mk 2 v name width (List.replicate n (.mk 1 aP ByteArray.empty 0 [])))).2
 if e≠0 then e else 42
mutual
def Tr.turn (aL:List Tr)(cols:List aZ):Tr->dE->Except Int (Tr×dE)
 | .mk op v name width args,s=>
   match aL.findIdx? (λ g=>g.same (.mk op v name width args))with
   | some k=> .ok (Ep k,s)
   | none=>
     if isAgg op=true then
      if (fY cols op args).2≠0 then .error (fY cols op args).2
      else .ok (Ep s.aL.length,⟨s.aM++ [.mk op v name width args],s.aL++ [⟨iV s.aL.length,(fY cols op args).1⟩]⟩)
     else match Tr.turns aL cols args s with
      | .error e=> .error e
      | .ok (ys,s')=>
        if op=2 then .error (rF cols v name width ys.length)
        else if ((Tr.mk op v name width ys).type s'.aL).2≠0 then .error ((Tr.mk op v name width ys).type s'.aL).2
        else .ok (.mk op v name width ys,s')
def Tr.turns (aL:List Tr)(cols:List aZ):List Tr->dE->Except Int (List Tr×dE)
 | [],s=> .ok ([],s)
 | t::ts,s=>match Tr.turn aL cols t s with
   | .error e=> .error e
   | .ok (y,s')=>match Tr.turns aL cols ts s' with
     | .error e=> .error e
     | .ok (ys,Lv)=> .ok (y::ys,Lv)
end
def pB (g:Bool)(aL:List Tr)(cols:List aZ)(t:Tr)(s:dE):Except Int (Tr×Int×dE):=
 if g=false then(if (t.type cols).2≠0 then .error (t.type cols).2 else .ok (t,(t.type cols).1,s))
 else match t.turn aL cols s with
  | .error e=> .error e
  | .ok (y,s')=>if (y.type s'.aL).2≠0 then .error (y.type s'.aL).2 else .ok (y,(y.type s'.aL).1,s')
structure ji where
 aK:Bool
 head:List aZ
 st:dE
 items:List Tr
 having:List Tr
 order:List Tr
def pC (cols:List aZ):List Tr->Except Int Unit
 | []=> .ok ()
 | t::ts=>if nL (t.type cols)≠0 then .error (nL (t.type cols))else pC cols ts
def kK (cols:List aZ):List Tr->Nat->Except Int (List aZ)
 | [],_=> .ok []
 | t::ts,k=>if (t.type cols).2≠0 then .error (t.type cols).2 else match kK cols ts (k+1)with
   | .error e=> .error e
   | .ok l=> .ok (⟨iV k,(t.type cols).1⟩::l)
def ia (t:Tr)(nm:ByteArray):ByteArray:=if nm.size=0/\t.op=2 then t.name else nm
def dT (g:Bool)(aL:List Tr)(cols:List aZ):List (Tr×ByteArray)->dE->Except Int (List Tr×List aZ×dE)
 | [],s=> .ok ([],[],s)
 |(t,nm)::l,s=>match pB g aL cols t s with
  | .error e=> .error e
  | .ok (y,k,s')=>match dT g aL cols l s' with
    | .error e=> .error e
    | .ok (ys,hd,Lv)=> .ok (y::ys,⟨ia t nm,k⟩::hd,Lv)
def dB (g:Bool)(aL:List Tr)(cols:List aZ):List Tr->dE->Except Int (List Tr×dE)
 | [],s=> .ok ([],s)
 | t::l,s=>match pB g aL cols t s with
   | .error e=> .error e
   | .ok (y,k,s')=>if cj k 1=false then .error 40 else match dB g aL cols l s' with
     | .error e=> .error e
     | .ok (ys,Lv)=> .ok (y::ys,Lv)
def eu (g:Bool)(aL:List Tr)(cols:List aZ):List (Tr×Bool)->dE->Except Int (List Tr×dE)
 | [],s=> .ok ([],s)
 |(t,_)::l,s=>match pB g aL cols t s with
  | .error e=> .error e
  | .ok (y,_,s')=>match eu g aL cols l s' with
    | .error e=> .error e
    | .ok (ys,Lv)=> .ok (y::ys,Lv)
def ew (q:Qy)(cols:List aZ):Except Int ji:=
 if 1 < q.cK.length\/1 < q.ft.length\/1 < q.lim.length\/(q.lim.length=1/\q.lim.getD 0 0 < 0)then .error 1
 else if q.all.any (λ t=>decide (32 < t.depth))=true then .error 1
 else match pC cols q.cK with
 | .error e=> .error e
 | .ok _=>match kK cols q.aL 0 with
 | .error e=> .error e
 | .ok gc=>if q.items=[]/\q.aK=true then .error 42
 else match dT q.aK q.aL cols q.items ⟨[],gc⟩with
 | .error e=> .error e
 | .ok (is,hd,s1)=>match dB q.aK q.aL cols q.ft s1 with
 | .error e=> .error e
 | .ok (hs,s2)=>match eu q.aK q.aL cols q.ord s2 with
 | .error e=> .error e
 | .ok (os,s3)=> .ok ⟨q.aK,if q.items=[] then cols else hd,s3,is,hs,os⟩
def bz (cols:List aZ)(row:List Val)(l:List Tr):Except Int (List Val):=
 if cN (Tr.gZ cols row l)≠0 then .error (cN (Tr.gZ cols row l))else .ok ((Tr.gZ cols row l).map (·.1))
def fI (cols:List aZ)(l:List Tr)(row:List Val):Bool×Int:=match l with
 | []=>(true,0)
 | t::_=>vM (t.eval cols row)
def dx (cols:List aZ)(l:List Tr)(rows:List (List Val)):List (List Val)×Int:=
 (rows.filter λ r=>(fI cols l r).2==0 &&(fI cols l r).1,dp (rows.map λ r=>(fI cols l r).2))
def FO (c:aZ)(v:Val):Bool:=good v &&(v.k==0 || v.k==c.t)
def ib:List aZ->List Val->Bool
 | [],[]=>true
 | c::cs,v::vs=>FO c v && ib cs vs
 | _,_=>false
noncomputable def gH (s:St):Val×Int:=open Classical in if h:∃r:Val×Int,gK s r.1 r.2/\r.1.Ok then Classical.choose h else if h:∃r:Val×Int,gK s r.1 r.2 then Classical.choose h else(aP,0)
theorem Ip{s:St}(h:∃v e,gK s v e):gK s (gH s).1 (gH s).2:=by
 obtain⟨v,e,hv⟩:=h;have h':∃r:Val×Int,gK s r.1 r.2:=⟨(v,e),hv⟩;by_cases h2:∃r:Val×Int,gK s r.1 r.2/\r.1.Ok
 ·unfold gH;rw[dif_pos h2];exact(Classical.choose_spec h2).1
 ·unfold gH;rw[dif_neg h2,dif_pos h'];exact Classical.choose_spec h'
theorem aaB{s:St}(h:∃v e,gK s v e/\v.Ok):(gH s).1.Ok:=by obtain⟨v,e,hv⟩:=h;have h':∃r:Val×Int,gK s r.1 r.2/\r.1.Ok:=⟨(v,e),hv⟩;unfold gH;rw[dif_pos h'];exact(Classical.choose_spec h').2
def jE:List Tr->List Val->List (Val×Val)
 | [],_=> []
 | t::ts,l=>(if 0 < t.args.length then l.getD 0 aP else aP,if 1 < t.args.length then l.getD 1 aP else aP)::jE ts (l.drop t.args.length)
def jo (l:List (List Val)):List (List Val):=FI bu l
def qB (i:Nat)(l:List (List Val×List (Val×Val)))(k:List Val):List (Val×Val):=(l.filter λ r=>bu r.1 k==0).map λ r=>r.2.getD i (aP,aP)
noncomputable def dW (ops:List Int) (l:List (List Val×List (Val×Val))) (k:List Val):List (Val×Int):=(List.range ops.length).map λ i=>gH (ld (ops.getD i 0) (qB i l k))
noncomputable def nj (ng:Nat) (aM:List Tr) (l:List (List Val)):Except Int (List (List Val)):=
 let ps:=l.map λ r=>(r.take ng,jE aM (r.drop ng))
 let ks:=if ng=0 then [[]] else jo (ps.map (·.1))
 let e:=dp (ks.map λ k=>cN (dW (aM.map Tr.op) ps k))
 if e≠0 then .error e else .ok (ks.map λ k=>k++(dW (aM.map Tr.op) ps k).map (·.1))
variable{α:Type}
def BS(l:List (Except Int α)):Except Int (List α):=
 if dp (l.map λ | .error e=>e | .ok _=>0)≠0 then .error (dp (l.map λ | .error e=>e | .ok _=>0))else .ok (l.filterMap λ | .ok x=>some x | .error _=>none)
structure eI where
 row:List Val
 keys:List Val
def YC (d:Bool)(a b:Val):Int:=if d=true then -(bQ a b)else bQ a b
def wh:List Bool->List Val->List Val->Int
 | [],_,_=>0
 | d::ds,a,b=>oN (YC d (a.headD aP) (b.headD aP)) (wh ds a.tail b.tail)
def ud (ds:List Bool)(a b:eI):Int:=oN (wh ds a.keys b.keys) (bu a.row b.row)
def mh (ds:List Bool)(l:List eI):List eI:=qm (ud ds) l
noncomputable def zh (q:Qy) (p:ji) (cols:List aZ) (rows:List (List Val)):Except Int (List (List Val)):=
 if (dx cols q.cK rows).2≠0 then .error (dx cols q.cK rows).2
 else if p.aK=false then .ok (dx cols q.cK rows).1
 else match BS ((dx cols q.cK rows).1.map λ r=>bz cols r (q.aL++p.st.aM.flatMap Tr.args))with
 | .error e=> .error e
 | .ok l=>match nj q.aL.length p.st.aM l with
   | .error e=> .error e
   | .ok gs=>if (dx p.st.aL p.having gs).2≠0 then .error (dx p.st.aL p.having gs).2 else .ok (dx p.st.aL p.having gs).1
def fZ (p:ji)(cols:List aZ):List aZ:=if p.aK=true then p.st.aL else cols
def RY (p:ji)(r l:List Val):eI:=⟨if p.items=[] then r else l.take p.items.length,l.drop p.items.length⟩
noncomputable def rG (p:ji) (cols:List aZ) (rows:List (List Val)):Except Int (List eI):=
 BS (rows.map λ r=>match bz (fZ p cols) r (p.items++p.order)with | .error e=> .error e | .ok l=> .ok (RY p r l))
noncomputable def pD (q:Qy) (cols:List aZ) (rows:List (List Val)):Except Int (List aZ×List (List Val)):=
 match ew q cols with
 | .error e=> .error e
 | .ok p=>if rows.any (λ r=> !ib cols r)=true then .error 40
   else match zh q p cols rows with
   | .error e=> .error e
   | .ok left=>match rG p cols left with
     | .error e=> .error e
     | .ok ls=> .ok (p.head,((match q.lim with | []=>mh (q.ord.map λ o:Tr×Bool=>o.2) ls | n::_=>(mh (q.ord.map λ o:Tr×Bool=>o.2) ls).take n.toNat).map eI.row))
def aaC (gb:Nat)(b e:Int)(w:World)(en:Ending)(w':World):Prop:=en=.returned (.bool (e==0))/\aC w' gb 84 #[af (rE b e)]/\w.grownBy w' (some gb)
theorem BU{b:Int}:rE b 0=b:=if_neg (λ h=>h.1 rfl)
theorem YD(h:e≠0):rE 0 e=e:=if_pos ⟨h,.inl rfl⟩
theorem Uq{b:Int}(h:e≠0)(hb:b≠0):rE b e=if e < b then e else b:=by
 unfold rE;by_cases h1:e < b
 ·rw[if_pos ⟨h,.inr h1⟩,if_pos h1]
 ·rw[if_neg (λ h2=>h2.2.elim hb h1),if_neg h1]
theorem wj (gb:Nat)(b e:Int)(w:World)(h:aC w gb 84 #[af b]):ar 36 #[aw gb,af e] w (aaC gb b e w):=by
 have hg:=aT (p:=gb) (Below.refl w.heap.size w);have hc:=h.cell 0;have hf:=h.frozen 0;simp only[getElem?_toArray,getElem?_cons_zero] at hc;by_cases h0:e=0
 ·subst h0;have H:=aa h;clear h;go_enter Tryz.func36,Tryz.ntmps36;go_wp2_with fail;go_ret;exact⟨rfl,by rw[BU];exact H.ae,hg⟩
 have t1:(e==0)=false:=by simp[h0]
 have t2:(e != 0)=true:=by simp[h0]
 have t3:decide (e=0)=false:=by simp[h0]
 by_cases hb:b=0
 ·subst hb;have H:=aa h;have HP:=aa (YD h0);have T1:=aa t1;clear h h0;exact ZfM
 have u1:(b==0)=false:=by simp[hb]
 have u3:decide (b=0)=false:=by simp[hb]
 have hp:=Uq h0 hb;by_cases hl:e < b
 ·rw[if_pos hl] at hp;have v1:=decide_eq_true hl;have H:=aa h;have HP:=aa hp;have T1:=aa t1;clear h h0 hb hp hl;exact ZfM
 ·rw[if_neg hl] at hp;have v1:=decide_eq_false hl;have H:=aa h;have HP:=aa hp;have T1:=aa t1;clear h h0 hb hp hl;go_enter Tryz.func36,Tryz.ntmps36;go_wp2_with fail;go_ret;exact⟨by rw[T1.ae];rfl,by rw[HP.ae];exact H.ae,hg⟩
def bX (r:aN):List Value:=[.slice r.A r.l.length r.c]
variable{base base':Nat}
theorem aI.down{f:α->List Value} {e:TypeId} {size:Nat} {w:World}  {v:Value} {l:List α}(h:aI f e size w base v l)(hb:base'<=base):aI f e size w base' v l:=by
 obtain⟨h1,h2⟩:=h;refine⟨h1,?_⟩;rcases h2 with h2 |⟨g,cap,cur,h3,h4,h5⟩
 ·exact .inl h2
 ·exact .inr ⟨g,cap,cur,h3,Nat.le_trans hb h4,h5⟩
theorem oB:(Tryz.prog.info? 38).map (λ i=>(i.zero,i.size,i.bytes))=some (some (az),1,24):=by exact ZhU
def jq (f:List Val->Bool×Int)(rs:List aN):List aN:=rs.filter λ r=>(f r.l).2==0 &&(f r.l).1
theorem OX (f:List Val->Bool×Int)(rs:List aN)(r:aN):jq f (rs++ [r])=jq f rs++(if ((f r.l).2==0 &&(f r.l).1)=true then [r] else []):=by unfold jq;rw[filter_append];congr 1;rw[filter_cons];rfl
theorem rH (l:List Int)(e:Int):dp (l++ [e])=rE (dp l) e:=by unfold dp;rw[foldl_append];rfl
variable{wr w2:World}{g:Nat}
theorem dy{w:World} (h:aj w wr)(hg:wr.grownBy w2 (some g))(hB:w.heap.size<=g):aj w w2:=
 h.trans ⟨hg.os,hg.tape,hg.output,hg.size,λ k hk=>hg.block k (Nat.lt_of_lt_of_le hk h.size) (λ e=>by injection e with e;omega)⟩
def aaD (kv:Value)(gb:Nat)(le:Int):Nat->World->Value->Prop
 | 0,_,v=>v=kv
 | 1,_,v=>v=aw gb
 | 2,_,v=>v=af le
 | 3,_,v=>v=kv
 | 4,_,v=>v=af le
 | _,_,_=>False
theorem BV (kv:Value)(gb:Nat)(le:Int):∀i w w' v,aaD kv gb le i w v->ai w w'->aaD kv gb le i w' v:=by exact Zhz
theorem zi1.Kcv(h:p:=by have Iq:=ai.then hb hL;have HK5:=HO.ae.later hL;go_wp2_with fail;exact bodyPost_ret (v:=.tuple #[u9,af FP]) (by simp[results,Tryz.results32,go_sem]) rfl ⟨_,by rw[Ur.ae],HK5.down (Nat.le_of_lt HS0.ae),Iq⟩):p:=h
theorem YE (lV cV:Value)(f:List Val->Bool×Int)(zi:List aN)(RA:Option Addr)(rc:Nat)(w:World)(hr:zi.length<=1000000)(hR:RR w w.heap.size RA zi)
  (hT:∀r∈zi,∀W1,aj w W1->ar 16 #[lV,cV,.slice r.A r.l.length r.c] W1 λ e w'=>e=.returned (.tuple #[.bool (f r.l).1,af (f r.l).2])/\aj W1 w'):
  ar 32 #[lV,cV,.slice RA zi.length rc] w λ e w'=>∃v,e=.returned (.tuple #[v,af (dp (zi.map λ r=>(f r.l).2))])/\aI bX 38 1 w' w.heap.size v (jq f zi)/\aj w w':=by
 have HR:=aa hR;have HT:=aa hT;clear hR hT;have HX:=aC.new w 84 #[af 0];have h2:=ah w (.cells #[af 0] 84);have HS0:=aa (show w.heap.size <(w.alloc (.cells #[af 0] 84)).heap.size by rw[World.size_alloc];omega);go_enter Tryz.func32,Tryz.ntmps32;go_upto_region 2 with fail;generalize w.alloc _=W1 at*;obtain⟨g,hg⟩:∃g,g=w.heap.size:=⟨_,rfl⟩;rw[<- hg] at HX ⊢;have wI:=aa hg;clear hg;have H1:=aa HX;have H2:=aa h2;clear HX h2;go_wp2_with fail;go_loopw [9,16] (λ kv i wr=>∃k:Nat,k<=zi.length/\i=af k/\aI bX 38 1 wr W1.heap.size kv (jq f (zi.take k))/\aC wr g 84 #[af (dp ((zi.take k).map λ r=>(f r.l).2))]/\aj w wr/\W1.heap.size<=wr.heap.size) (λ _ i _=>zi.length - (intOf i).toNat);case atStart=>exact⟨0,Nat.zero_le _,rfl,aI.nil,H1.ae,H2.ae,Nat.le_refl _⟩
 case round=>
  clear H1 H2;obtain⟨k,hk,rfl,hK,hL,hb,hs⟩:=hrel;have HO:=aa hK;have HK:=aa hL;clear hK hL;by_cases hlt:k < zi.length
  ·obtain⟨b,off,rfl,kE,hcell⟩:=(HR.ae.below hb).at_ hlt;have ht:=HT.ae zi[k] (getElem_mem hlt);have pA:=aa (show zi.take (k+1)=zi.take k++ [zi[k]] by rw[take_add_one,getElem?_eq_getElem hlt];rfl);generalize zi[k]=r at*;have nM:=aa (show jq f (zi.take (k+1))=jq f (zi.take k)++(if ((f r.l).2==0 &&(f r.l).1)=true then [r] else []) by rw[pA.ae,OX]);have Kc:=aa (show dp ((zi.take (k+1)).map λ r=>(f r.l).2)=rE (dp ((zi.take k).map λ r=>(f r.l).2)) (f r.l).2 by rw[pA.ae,map_append];exact rH _ _);have Ax:(jq f (zi.take k)).length<=1000000:=Nat.le_trans (length_filter_le _ _) TaW;generalize jq f (zi.take k)=ks at*;generalize dp ((zi.take k).map λ r=>(f r.l).2)=FP at*;clear pA;obtain⟨is,akE⟩:∃is,is=(f r.l).1:=⟨_,rfl⟩;obtain⟨er,her⟩:∃er,er=(f r.l).2:=⟨_,rfl⟩;rw[<- akE,<- her] at ht nM;rw[<- her] at Kc;have pd:=aa ht;clear ht akE her;have YF:=hcell.1;clear hcell;go_wp2_with fail;refine(pd.ae _ hb).mono ?_;rintro e w1 ⟨rfl,b1⟩;have hb1:=ai.then hb b1;replace HO:=aa (HO.ae.later b1);replace HK:=aa (HK.ae.later b1);replace hs:=Nat.le_trans hs b1.size;clear b1 pd YF hb;go_wp2_with fail;refine(wj g FP er _ HK.ae).mono ?_;rintro e W2 ⟨rfl,hl2,hg2⟩;have hne:=HO.ae.other HK.ae Taa;replace HO:=aa (HO.ae.grown hg2 hne);have hb2:=dy hb1 hg2 TaR;replace hs:=Nat.le_trans hs hg2.size;replace HK:=aa hl2;clear hg2 hne hb1 hl2;by_cases he:er=0
   ·subst he;cases is
    ·go_wp2_with fail;go_roundw;case rel=>exact⟨k+1,hlt,by go_num,by rw[nM.ae];simpa using HO.ae,by rw[Kc.ae];exact HK.ae,hb2,hs⟩
     case measure=>exact Za6
    ·go_upto_region 8 with fail;have hB:=ah W2 (.cells #[.slice r.A r.l.length r.c] 38);have hG:=aC.new W2 38 #[.slice r.A r.l.length r.c];have hb3:=ai.then hb2 hB
     replace HO:=aa (HO.ae.later hB);replace HK:=aa (HK.ae.later hB);have hbase:=Nat.le_trans hs hB.size;have HG:=aa hG;have hne:=HO.ae.other HK.ae Taa;have nV:=aa hne;have HS:=aa hbase;clear hG hB hne;go_wp2_with (first
      |(at_builtin
        refine aV rfl (.tmp 32) (.tmp 34) 29 rfl _ 24 Tryz.underlying29 oB rfl WC r rfl Taw rfl HO.ae W2.heap.size rfl HG.ae WC WC hbase ?_
        intro v4 w4 o4 g4
        have b4:=bw HO.ae g4 hbase
        have L4:=aa (HK.ae.grown g4 (Ne.symm nV.ae))
        have s4:=Nat.le_trans HS.ae g4.size
        have O4:=aa o4
        clear o4 g4 HO HG HK))
     go_roundw;case rel=>exact⟨k+1,hlt,by go_num,by rw[nM.ae];simpa using O4.ae,by rw[Kc.ae];exact L4.ae,hb3.trans (b4.mono (Nat.le_of_lt HS0.ae)),s4⟩
     case measure=>exact Za6
   ·have t1:(er==0)=false:=by simp[he]
    have T1:=aa t1;clear he;go_wp2_with fail;go_roundw;case rel=>exact⟨k+1,hlt,by go_num,by rw[nM.ae,T1.ae];simpa using HO.ae,by rw[Kc.ae];exact HK.ae,hb2,hs⟩
    case measure=>exact Za6
  ·have lS:zi.take k=zi:=take_of_length_le WC;rw[lS] at HO HK;have Lt:=aa (show dp (zi.map λ r=>(f r.l).2)=dp (zi.map λ r=>(f r.l).2)from rfl);generalize hle:dp (zi.map λ r=>(f r.l).2)=FP at*;clear Lt;have Ur:=aa hle;clear hle;go_upto_region 10 with fail;refine bC 5 (aaD u9 g FP) (BV _ _ _) Vx Vx Vx ?_ ?_
   ·exact Zfj
   intro W3 hL;simp only[Uab];rintro a0 - a1 - a2 - a3 q3 FN Ul;replace q3:u9=a3:=Eq.symm q3;open zi1 in exact Zha
def bI (y:Ex):List Value:=[ag y.op,ag y.v.k,af y.v.n,.string y.v.s,.string y.name,af y.width,.slice y.A y.n y.c]
theorem fM:(Tryz.prog.info? 46).map (λ i=>(i.zero,i.size,i.bytes))=some (some (.agg di),7,88):=by exact ZhU
theorem YG (n:Nat)(hn:n<=1000000)(w:World):ar 69 #[az,af n] w λ e w'=>∃v,e=.returned v/\aI bI 46 7 w' w.heap.size v []/\aj w w':=by
 have hb:=Below.refl w.heap.size w;by_cases h0:n=0
 ·subst h0;go_enter Tryz.func69,Tryz.ntmps69;go_wp2_with fail;go_ret;exact⟨_,rfl,aI.nil,hb⟩
 obtain⟨i0,kB,hz0,hz1,hz2⟩:=info_parts fM;have hrun:=Lib.run_append_nil_zeros (P:=Tryz.prog) w 23 3 23 46 i0 _ .i64 .i64 Tryz.underlying23 Tryz.underlying3 kB hz0 n WC (by rw[hz1];decide) WC (by rw[hz2];omega);have vC:=grownCap_ge w n 0 46;have hle:=grownCap_le_maxLen w n 0 46 Tam
 have hown:aI bI 46 7 (w.drew.alloc (.cells (Builtin.zeroCells (Value.agg di).cells n++Builtin.zeroCells (Value.agg di).cells (grownCap w n 0 46 - n)) 46)) w.heap.size (aF w.heap.size 0 (grownCap w n 0 46)) []:=by
  refine⟨by simp,.inr ⟨w.heap.size,_,_,rfl,Nat.le_refl _,heap_alloc_new w.drew _,Nat.zero_le _,hle,?_,by simp⟩⟩;rw[Array.size_append,size_zeroCells,size_zeroCells];have e:(Value.agg di).cells.size=7:=by kernel_rfl
  rw[e,<- Nat.add_mul];congr 1;omega
 have hb2:aj w (w.drew.alloc (.cells (Builtin.zeroCells (Value.agg di).cells n++Builtin.zeroCells (Value.agg di).cells (grownCap w n 0 46 - n)) 46)):=hb.drew.alloc (Nat.le_refl _) _;generalize World.alloc w.drew _=W at*;generalize grownCap w n 0 46=cp at*;have hnp:decide ((0:Int)<(n:Int))=true:=decide_eq_true WC;have ayN:decide (0 < n)=true:=decide_eq_true WC;have arB:=aa hrun;have arC:=aa hown;have fH:=aa hb2;clear hrun hown hb2 h0 hb;go_enter Tryz.func69,Tryz.ntmps69;go_wp2_with (first
  |(at_builtin
    refine Lib.wpList_append_run _ rfl (.tmp 20) (.tmp 21) 23 3 rfl _ _ rfl rfl _ _ arB.ae ?_))
 go_ret;exact⟨_,rfl,arC.ae,fH.ae⟩
end Go.Proofs.YtndgjggokjickaaGreatDoor
namespace Go.Proofs.YtndgjggokjickaaGreatDoor.R
open List
variable{p:Prop}
set_option maxHeartbeats 90000000
set_option maxRecDepth 100000
set_option linter.unusedSimpArgs false
set_option linter.unusedVariables false
def fN (c:UInt8):Bool:=(decide (97<=c)&& decide (c<=122))||(decide (65<=c)&& decide (c<=90))|| c==95
def bE (c:UInt8):Bool:=decide (48<=c)&& decide (c<=57)
def eR (c:UInt8):Bool:=fN c || bE c
def rI (c:UInt8):Bool:=c==32 || c==9 || c==10 || c==13
def Ir (c:UInt8):Bool:=decide (65<=c)&& decide (c<=90)
def wk (c:UInt8):UInt8:=if Ir c then c+32 else c
def cD:Bool->List UInt8->List UInt8
 | _,[]=> []
 | true,c::r=>if c=10 then cD false r else cD true r
 | false,c::r=>if rI c then cD false r else if c=45/\r.head?=some 45 then cD true r else c::r
def ly (l:List UInt8):Nat:=l.foldl (λ v c=>v*10+(c.toNat - 48)) 0
def wu (l:List UInt8):Bool:=(decide (l.length<=1)|| !(l.head?==some 48))&& decide (ly l<=9223372036854775807)
def fO:List UInt8->Option (List UInt8×List UInt8)
 | []=>none
 | [c]=>if c=39 then some ([],[])else none
 | c::d::r=>if c=39 then(if d=39 then(fO r).map λ x=>(39::x.1,x.2)else some ([],d::r))else(fO (d::r)).map λ x=>(c::x.1,x.2)
def signs:List (List UInt8):=[[60,62],[60,61],[62,61],[40],[41],[44],[42],[43],[45],[47],[37],[61],[60],[62],[59]]
def kL:List (List UInt8)->List UInt8->Option (List UInt8)
 | [],_=>none
 | s::l,r=>if s.isPrefixOf r then some s else kL l r
structure Wd where
 k:Nat
 s:List UInt8
 n:Int
deriving DecidableEq
structure rJ where
 w:Wd
 p:Nat
deriving DecidableEq
def ie:List UInt8->Except Nat (Wd×List UInt8)
 | []=> .error 30
 | c::r=>
   if fN c then(if ((c::r).takeWhile eR).length<=32 then .ok (⟨1,((c::r).takeWhile eR).map wk,0⟩,(c::r).dropWhile eR)else .error 2)
   else if bE c then(if wu ((c::r).takeWhile bE)&& !(((c::r).dropWhile bE).head?.any fN)then .ok (⟨2,[],ly ((c::r).takeWhile bE)⟩,(c::r).dropWhile bE)else .error 30)
   else if c=39 then(match fO r with
    | some (t,rest)=> .ok (⟨3,t,0⟩,rest)
    | none=> .error 30)
   else match kL signs (c::r)with
    | some s=> .ok (⟨4,s,0⟩,(c::r).drop s.length)
    | none=> .error 30
def xO (n:Nat):Nat->List UInt8->Except (Nat×Nat) (List rJ)
 | 0,_=> .error (0,30)
 | f+1,r=>match cD false r with
   | []=> .ok [⟨⟨0,[],0⟩,n⟩]
   | c::r'=>match ie (c::r')with
     | .error e=> .error (n - (c::r').length,e)
     | .ok (w,rest)=>match xO n f rest with
       | .error e=> .error e
       | .ok l=> .ok (⟨w,n - (c::r').length⟩::l)
def zZ (s:List UInt8):Except (Nat×Nat) (List rJ):=if 4096 < s.length then .error (0,2)else xO s.length (s.length+1) s
def nN:List (List UInt8):=[[97,110,100],[97,115],[98,121],[99,97,108,108],[99,114,101,97,116,101],[100,101,108,101,116,101],[100,101,115,99],[100,114,111,112],[102,97,108,115,101],[102,114,111,109],[103,114,111,117,112],[104,97,118,105,110,103],[105,110,115,101,114,116],[105,110,116,111],[105,115],[108,105,109,105,116],[110,111,116],[110,117,108,108],[111,110,108,121],[111,114],[111,114,100,101,114],[115,101,108,101,99,116],[115,101,116],[116,114,117,101],[117,112,100,97,116,101],[118,97,108,117,101,115],[119,104,101,114,101]]
def tK (s:List UInt8):Bool:=nN.contains s
theorem jY:∀(b:Bool) (r:List UInt8),(cD b r).length<=r.length
 | _,[]=>by simp[cD]
 | true,c::r=>by have h1:=jY false r;have h2:=jY true r;simp only[cD];split <;> simp only[length_cons] <;> omega
 | false,c::r=>by
   have h1:=jY false r;have h2:=jY true r;simp only[cD];split
   ·simp only[length_cons];omega
   ·split <;> simp only[length_cons] <;> omega
theorem rK:∀(r:List UInt8) (t rest:List UInt8),fO r=some (t,rest)->∃b,r=b++rest/\b≠ []
 | [],t,rest,h=>by simp[fO] at h
 | [c],t,rest,h=>by
   simp only[fO] at h;split at h
   ·rename_i hc;injection h with h;injection h with h1 h2;subst h1 h2 hc;exact⟨[39],rfl,by simp⟩
   ·cases h
 | c::d::r,t,rest,h=>by
   simp only[fO] at h;split at h
   ·rename_i hc;subst hc;split at h
    ·rename_i hd;subst hd;cases hr:fO r with
     | none=>rw[hr] at h;cases h
     | some x=>obtain⟨t',rest'⟩:=x;rw[hr] at h;simp only[Option.map_some,Option.some.injEq,Prod.mk.injEq] at h;obtain⟨rfl,rfl⟩:=h;obtain⟨b,hb,_⟩:=rK r t' _ hr;exact⟨39::39::b,by rw[hb];rfl,by simp⟩
    ·injection h with h;injection h with h1 h2;subst h1 h2;exact⟨[39],rfl,by simp⟩
   ·cases hr:fO (d::r)with
    | none=>rw[hr] at h;cases h
    | some x=>obtain⟨t',rest'⟩:=x;rw[hr] at h;simp only[Option.map_some,Option.some.injEq,Prod.mk.injEq] at h;obtain⟨rfl,rfl⟩:=h;obtain⟨b,hb,_⟩:=rK (d::r) t' _ hr;exact⟨c::b,by rw[hb];rfl,by simp⟩
theorem rL:∀ {l:List (List UInt8)} {r s:List UInt8},kL l r=some s->s∈l/\s <+: r
 | [],r,s,h=>by simp[kL] at h
 | x::l,r,s,h=>by
   simp only[kL] at h;split at h
   ·rename_i hp;injection h with h;subst h;exact⟨mem_cons_self,by simpa using hp⟩
   ·obtain⟨h1,h2⟩:=rL h;exact⟨mem_cons_of_mem _ h1,h2⟩
variable{r rest:List UInt8}
theorem BW{w:Wd}(h:ie r=.ok (w,rest)):∃b,r=b++rest/\b≠ []:=by
 match r with
 | []=>simp[ie] at h
 | c::r=>
   simp only[ie] at h;split at h
   ·rename_i hc;split at h
    ·injection h with h;injection h with h1 h2;subst h1 h2;refine⟨_,(takeWhile_append_dropWhile (p:=eR)).symm,?_⟩;have:eR c=true:=by simp[eR,hc]
     simp[takeWhile_cons,this]
    ·cases h
   ·split at h
    ·rename_i hc;split at h
     ·injection h with h;injection h with h1 h2;subst h1 h2;refine⟨_,(takeWhile_append_dropWhile (p:=bE)).symm,?_⟩;simp[takeWhile_cons,hc]
     ·cases h
    ·split at h
     ·split at h
      ·rename_i t rest' ht;injection h with h;injection h with h1 h2;subst h1 h2;obtain⟨b,hb,_⟩:=rK _ _ _ ht;exact⟨c::b,by rw[hb];rfl,by simp⟩
      ·cases h
     ·split at h
      ·rename_i s hs;injection h with h;injection h with h1 h2;subst h1 h2;obtain⟨h1,t,h2⟩:=rL hs;refine⟨s,?_,?_⟩
       ·rw[<- h2];simp
       ·intro e;subst e;revert h1;decide
      ·cases h
theorem AH{w:Wd}(h:ie r=.ok (w,rest)):rest.length < r.length:=by obtain⟨b,rfl,hb⟩:=BW h;have:0 < b.length:=List.length_pos_iff.2 hb;simp;omega
theorem FQ (n:Nat):∀(f g:Nat) (r:List UInt8),r.length < f->r.length < g->xO n f r=xO n g r
 | 0,_,_,h,_=>by omega
 | _,0,_,_,h=>by omega
 | f+1,g+1,r,hf,hg=>by
   have hs:=jY false r;simp only[xO];cases hk:cD false r with
   | nil=>rfl
   | cons c r'=>
     rw[hk] at hs;simp only;cases ho:ie (c::r')with
     | error e=>rfl
     | ok x=>obtain⟨w,rest⟩:=x;have:=AH ho;simp only;rw[FQ n f g rest WC WC]
structure Val where
 k:Int
 n:Int
 s:ByteArray
inductive Tr where
 | mk (op:Int) (v:Val) (name:ByteArray) (width:Int) (args:List Tr)
def jF:Val:=⟨0,0,ByteArray.empty⟩
def AJ (op:Int)(l:List Tr):Tr:=.mk op jF ByteArray.empty 0 l
def tL (v:Val):Tr:=.mk 1 v ByteArray.empty 0 []
def uC (n:ByteArray):Tr:=.mk 2 jF n 0 []
def afK:List UInt8:=[111,114]
def YH:List UInt8:=[97,110,100]
def YI:List UInt8:=[110,111,116]
def aaE:List UInt8:=[105,115]
def YJ:List UInt8:=[110,117,108,108]
def OY:List UInt8:=[116,114,117,101]
def AK:List UInt8:=[102,97,108,115,101]
def fk:List UInt8:=[115,101,108,101,99,116]
def xP:List UInt8:=[102,114,111,109]
def afL:List UInt8:=[111,110,108,121]
def Iu:List UInt8:=[119,104,101,114,101]
def AL:List UInt8:=[103,114,111,117,112]
def OZ:List UInt8:=[98,121]
def YK:List UInt8:=[104,97,118,105,110,103]
def Iw:List UInt8:=[111,114,100,101,114]
def Ix:List UInt8:=[108,105,109,105,116]
def Pa:List UInt8:=[100,101,115,99]
def aaF:List UInt8:=[97,115]
def BX:List UInt8:=[98,117,99,107,101,116]
def Iy:List UInt8:=[99,111,117,110,116]
def YL:List UInt8:=[115,117,109]
def adC:List UInt8:=[109,105,110]
def adD:List UInt8:=[109,97,120]
def adE:List UInt8:=[97,118,103]
def RZ:List UInt8:=[102,105,114,115,116]
def YM:List UInt8:=[108,97,115,116]
def dM:List UInt8:=[44]
def eC:List UInt8:=[40]
def eA:List UInt8:=[41]
def afM:List UInt8:=[59]
def xQ:List UInt8:=[42]
def sR:List UInt8:=[45]
def Pb:List UInt8:=[43]
def Iz:List UInt8:=[47]
def xR:List UInt8:=[37]
def akF:List UInt8:=[61]
def akG:List UInt8:=[60,62]
def akH:List UInt8:=[60]
def akI:List UInt8:=[60,61]
def afN:List UInt8:=[62]
def akJ:List UInt8:=[62,61]
structure Qu where
 items:List (Tr×ByteArray):=[]
 bZ:ByteArray:=ByteArray.empty
 only:Bool:=false
 cK:List Tr:=[]
 group:List Tr:=[]
 having:List Tr:=[]
 order:List (Tr×Bool):=[]
 dz:List Int:=[]
structure St where
 kind:Int:=0
 name:ByteArray:=ByteArray.empty
 cols:List (ByteArray×Int):=[]
 time:ByteArray:=ByteArray.empty
 every:Int:=0
 space:ByteArray:=ByteArray.empty
 parts:Int:=0
 query:Qu:= {}
 what:Int:=0
 of_:ByteArray:=ByteArray.empty
 a:Int:=0
 b:Int:=0
 rows:List (List Tr):=[]
 afO:List (ByteArray×Tr):=[]
 cK:List Tr:=[]
 bZ:Val:=jF
 eE:Val:=jF
abbrev dI:=List Wd
def Ps (α:Type):Type:=dI->Except Nat (α×dI)
instance:Monad Ps where
 pure x:=λ l=> .ok (x,l)
 bind p f:=λ l=>match p l with
  | .error n=> .error n
  | .ok (x,r)=>f x r
def iN (s:List UInt8)(t:Wd):Bool:=(t.k==1 || t.k==4)&& t.s==s
def dJ (s:List UInt8):dI->Bool
 | []=>false
 | t::_=>iN s t
def may (s:List UInt8):Ps Bool:=λ l=>if dJ s l then .ok (true,l.tail)else .ok (false,l)
def must (s:List UInt8):Ps Unit:=λ l=>if dJ s l then .ok ((),l.tail)else .error l.length
def wA:Ps ByteArray
 | []=> .error 0
 | t::r=>if t.k=1/\tK t.s=false then .ok (⟨t.s.toArray⟩,r)else .error (t::r).length
def IB:Ps Int
 | []=> .error 0
 | t::r=>if t.k=2 then .ok (t.n,r)else .error (t::r).length
def opsL:Nat->List (List UInt8×Int)
 | 0=> [(afK,17)]
 | 1=> [(YH,16)]
 | 3=> [(akF,10),(akG,11),(akH,12),(akI,13),(afN,14),(akJ,15)]
 | 4=> [(Pb,5),(sR,6)]
 | 5=> [(xQ,7),(Iz,8),(xR,9)]
 | _=> []
def YN:List (List UInt8×Int)->dI->Option Int
 | [],_=>none
 |(s,o)::k,l=>if dJ s l then some o else YN k l
def Pc:List (List UInt8×Int):=[(BX,20),(Iy,22),(YL,23),(adC,24),(adD,25),(adE,26),(RZ,27),(YM,28)]
def mj (n:ByteArray):Option Int:=Pc.lookup n.data.toList
mutual
def Tr.depth:Tr->Nat
 | .mk _ _ _ _ args=>Tr.iB args+1
def Tr.iB:List Tr->Nat
 | []=>0
 | t::l=>max t.depth (Tr.iB l)
end
def Qu.exprs (q:Qu):List Tr:=q.items.map (·.1)++q.cK++q.group++q.having++q.order.map (·.1)
def St.exprs (s:St):List Tr:=s.rows.flatten++s.afO.map (·.2)++s.cK++s.query.exprs
def zk (l:dI):Prop:=∃x e,l=x++ [e]/\e.k=0
variable{t:Wd}
theorem zk.tail{r:dI}(h:zk (t::r))(ht:t.k≠0):zk r:=by
 obtain⟨x,e,hx,he⟩:=h
 match x with
 | []=>simp at hx;exact absurd (hx.1▸he) ht
 | y::x=>simp at hx;exact⟨x,e,hx.2,he⟩
theorem zk.pos{l:dI}(h:zk l):0 < l.length:=by obtain⟨x,e,rfl,_⟩:=h;simp
theorem akK{s:List UInt8} (h:iN s t=true):t.k≠0:=by unfold iN at h;simp at h;omega
theorem Lx{s:List UInt8} {l:dI}(h:dJ s l=true):∃t r,l=t::r/\iN s t=true:=by
 match l with
 | []=>simp[dJ] at h
 | t::r=>exact⟨t,r,rfl,h⟩
open Go.RowKit
section
variable {w w':World} {g:Nat} {t:TypeId} {cs:Array Value}
theorem _root_.Go.Proofs.YtndgjggokjickaaGreatDoor.aC.drewN (h:aC w g t cs)(n:Nat):aC (w.drewN n) g t cs:=h
end
variable{B:Nat}
theorem dy{p:Nat} {a b:World}(h:a.grownBy b (some p))(hB:B<=a.heap.size)(hp:B<=p):Below B a b:=
 ⟨h.os,h.tape,h.output,h.size,λ k hk=>h.block k WC (λ e=>by injection e with e;omega)⟩
section
variable {α:Type} {f:α->List Value} {e:TypeId} {size:Nat} {w w':World} {base:Nat} {v:Value} {l:List α}
end
section
variable {P:Program} {l zs:List Oper} {Q:Exit->Act->World->Prop} {R:World->World->Prop} {V:Nat->World->Value->Prop} {a0:Act} {w0:World}
end
instance (B:Nat) (w0:World):Nonempty (Ext B w0):=⟨⟨w0,Below.refl _ _⟩⟩
section
variable {P:Program} {o:Oper} {ρ:Operand->Value} {w:World} {T:Value->World->Prop}
end
section
variable {α:Type} {f:α->List Value} {e:TypeId} {size:Nat} {base:Nat} {lv:Value} {l:List α} {y:α}
theorem zl {a b:World}(h:a.grownBy b none):aj a b:=⟨h.os,h.tape,h.output,h.size,λ k hk=>h.block k hk Tac⟩
end
section
variable {P:Program} {l zs:List Oper} {Q:Exit->Act->World->Prop} {R:World->World->Prop} {V:Nat->World->Value->Prop} {U:Nat->World->(Operand->Value)->Prop} {a0:Act} {w0:World}
end
open Go.ChangeShapes Go.WideShapes Go.ChangeAt
theorem lu{w:World} {p:Addr} {v:Value}(h:w.cell? p=some v):p.block < w.heap.size:=by
 rcases Nat.lt_or_ge p.block w.heap.size with hlt | vC
 ·exact hlt
 ·unfold World.cell? at h;rw[Array.getElem?_eq_none vC] at h;simp at h
def strOf (l:List UInt8):Value:=.string ⟨l.toArray⟩
variable{α:Type}
theorem xS{f:α->List Value} {size:Nat}(hf:∀x,(f x).length=size):∀(l:List α) (k:Nat) (x:α),l[k]?=some x->∀r u,(f x)[r]?=some u->(l.flatMap f)[k*size+r]?=some u
 | [],k,x,h,_,_,_=>by simp at h
 | y::l,0,x,h,r,u,hu=>by
   simp at h;subst h;have hr:r <(f y).length:=by
    rcases Nat.lt_or_ge r (f y).length with h' | h'
    ·exact h'
    ·rw[getElem?_eq_none h'] at hu;cases hu
   rw[Nat.zero_mul,Nat.zero_add,flatMap_cons,getElem?_append_left hr];exact hu
 | y::l,k+1,x,h,r,u,hu=>by have:=xS hf l k x Tal r u hu;rw[flatMap_cons,getElem?_append_right (by rw[hf,Nat.succ_mul];omega),hf];rw[show(k+1)*size+r - size=k*size+r by rw[Nat.succ_mul];omega];exact this
section
variable {α:Type} {f:α->List Value} {e:TypeId} {size:Nat} {w w':World} {base:Nat} {v:Value} {l:List α}
theorem _root_.Go.Proofs.YtndgjggokjickaaGreatDoor.aI.cell (hf:∀x,(f x).length=size)(h:aI f e size w base v l) {k:Nat} {x:α}(ho:l[k]?=some x):
  ∃g c,v=aF g l.length c/\base<=g/\g < w.heap.size/\∀r u,(f x)[r]?=some u->w.cell? ⟨g,k*size+r,none⟩=some u:=by
 have hk:k < l.length:=by exact ZgG
 rcases h.2 with ⟨_,h0⟩|⟨g,cap,cur,rfl,hb,h2,hn,hm,hs,ht⟩
 ·omega
 ·have hlt:g < w.heap.size:=by exact Zgw
  refine⟨g,cap,rfl,hb,hlt,λ r u hu=>?_⟩;have h1:=xS hf l k x ho r u hu;rw[<- ht] at h1
  have Kx:cur[k*size+r]?=some u:=by
   rw[getElem?_take] at h1;split at h1
   ·simpa using h1
   ·cases h1
  unfold World.cell?;simp[h2,Kx]
theorem _root_.Go.Proofs.YtndgjggokjickaaGreatDoor.aI.form (h:aI f e size w base v l):∃A c,v=.slice A l.length c:=by obtain⟨A,c,hv,_⟩:=h.reads;exact⟨A,c,hv⟩
end
structure Ex where
 op:Int
 v:Val
 name:ByteArray
 width:Int
 A:Option Addr
 n:Nat
 c:Nat
def bI (y:Ex):List Value:=[ag y.op,ag y.v.k,af y.v.n,.string y.v.s,.string y.name,af y.width,.slice y.A y.n y.c]
def mK (y:Ex):Value:=.agg (bI y).toArray
variable{β:Type}
def RL(f:β->List Value)(size:Nat)(w:World)(S:Nat->Prop)(A:Option Addr)(l:List β):Prop:=
 l=[]\/∃b off,A=some ⟨b,off,none⟩/\S b/\∀i y j u,l[i]?=some y->(f y)[j]?=some u->w.cell? ⟨b,off+i*size+j,none⟩=some u
variable{w':World}{S S':Nat->Prop}
theorem RL.keep{f:β->List Value} {size:Nat} {w:World}  {A:Option Addr} {l:List β}(h:RL f size w S A l)(hk:∀b,S b->(∀o,w'.cell? ⟨b,o,none⟩=w.cell? ⟨b,o,none⟩)/\S' b):RL f size w' S' A l:=by
 rcases h with h |⟨b,off,h1,h2,h3⟩
 ·exact .inl h
 ·exact .inr ⟨b,off,h1,(hk b h2).2,λ i y j u hy hu=>((hk b h2).1 _).trans (h3 i y j u hy hu)⟩
mutual
def Tr.at_ (w:World)(S:Nat->Prop):Tr->Ex->Prop
 | .mk op v name width args,y=>y.op=op/\y.v=v/\y.name=name/\y.width=width/\y.n=args.length/\∃ys,RL bI 7 w S y.A ys/\Tr.aQ w S args ys
def Tr.aQ (w:World)(S:Nat->Prop):List Tr->List Ex->Prop
 | [],ys=>ys=[]
 | t::ts,ys=>∃y ys',ys=y::ys'/\Tr.at_ w S t y/\Tr.aQ w S ts ys'
end
mutual
theorem Tr.at_.keep {w w':World} {S S':Nat->Prop}(hk:∀b,S b->(∀o,w'.cell? ⟨b,o,none⟩=w.cell? ⟨b,o,none⟩)/\S' b):∀(t:Tr) (y:Ex),t.at_ w S y->t.at_ w' S' y
 | .mk op v name width args,y,h=>by unfold Tr.at_ at h ⊢;obtain⟨h1,h2,h3,h4,h5,ys,h6,h7⟩:=h;exact⟨h1,h2,h3,h4,h5,ys,h6.keep hk,Tr.aQ.keep hk args ys h7⟩
theorem Tr.aQ.keep {w w':World} {S S':Nat->Prop}(hk:∀b,S b->(∀o,w'.cell? ⟨b,o,none⟩=w.cell? ⟨b,o,none⟩)/\S' b):∀(ts:List Tr) (ys:List Ex),Tr.aQ w S ts ys->Tr.aQ w' S' ts ys
 | [],ys,h=>by unfold Tr.aQ at h ⊢;exact h
 | t::ts,ys,h=>by unfold Tr.aQ at h ⊢;obtain⟨y,ys',h1,h2,h3⟩:=h;exact⟨y,ys',h1,Tr.at_.keep hk t y h2,Tr.aQ.keep hk ts ys' h3⟩
end
theorem Tr.aQ.length{w:World} :∀ {ts:List Tr} {ys:List Ex},Tr.aQ w S ts ys->ys.length=ts.length
 | [],ys,h=>by unfold Tr.aQ at h;subst h;rfl
 | t::ts,ys,h=>by unfold Tr.aQ at h;obtain⟨y,ys',rfl,_,h3⟩:=h;simp[Tr.aQ.length h3]
variable{y:Ex}
theorem Tr.fP{w:World}  {t:Tr} (h:t.at_ w S y):Tr.aQ w S [t] [y]:=by unfold Tr.aQ;exact⟨y,[],rfl,h,by unfold Tr.aQ;rfl⟩
variable{u:Tr}{z:Ex}
theorem Tr.aaG{w:World}  {t:Tr} (h:t.at_ w S y)(k:u.at_ w S z):Tr.aQ w S [t,u] [y,z]:=by unfold Tr.aQ;exact⟨y,[z],rfl,h,Tr.fP k⟩
theorem Tr.all_nil{w:World} :Tr.aQ w S [] []:=by unfold Tr.aQ;rfl
structure El (α:Type) where
 β:Type
 f:β->List Value
 size:Nat
 hf:∀y,(f y).length=size
 rel:World->(Nat->Prop)->α->β->Prop
 keep:∀ {w w':World} {S S':Nat->Prop} {x:α} {y:β},(∀b,S b->(∀o,w'.cell? ⟨b,o,none⟩=w.cell? ⟨b,o,none⟩)/\S' b)->rel w S x y->rel w' S' x y
inductive mM {α β:Type} (R:α->β->Prop):List α->List β->Prop
 | nil:mM R [] []
 | cons {x:α} {y:β} {l:List α} {m:List β}:R x y->mM R l m->mM R (x::l) (y::m)
variable{R R':α->β->Prop}
theorem mM.imp(h:∀x y,R x y->R' x y):∀ {l:List α} {m:List β},mM R l m->mM R' l m
 | _,_,.nil=> .nil
 | _,_,.cons a b=> .cons (h _ _ a) (b.imp h)
theorem mM.len:∀ {l:List α} {m:List β},mM R l m->m.length=l.length
 | _,_,.nil=>rfl
 | _,_,.cons a b=>by simp[b.len]
theorem mM.append:∀ {l l':List α} {m m':List β},mM R l m->mM R l' m'->mM R (l++l') (m++m')
 | _,_,_,_,.nil,k=>k
 | _,_,_,_,.cons a b,k=> .cons a (b.append k)
variable{x:α}
theorem mM.one{y:β}(h:R x y):mM R [x] [y]:=.cons h .nil
def El.lies(E:El α)(w:World)(S:Nat->Prop)(A:Option Addr)(n:Nat)(l:List α):Prop:=n=l.length/\∃ys,RL E.f E.size w S A ys/\mM (E.rel w S) l ys
variable{E:El α}
theorem El.lies.keep{w:World}  {A:Option Addr} {n:Nat} {l:List α}(h:E.lies w S A n l)(hk:∀b,S b->(∀o,w'.cell? ⟨b,o,none⟩=w.cell? ⟨b,o,none⟩)/\S' b):E.lies w' S' A n l:=by obtain⟨h1,ys,h2,h3⟩:=h;exact⟨h1,ys,h2.keep hk,h3.imp λ x y=>E.keep hk⟩
theorem El.YO(E:El α)(w:World)(S:Nat->Prop):E.lies w S none 0 []:=⟨rfl,[],.inl rfl,.nil⟩
def IC:El Tr:=⟨Ex,bI,7,λ _=>rfl,Tr.at_,λ hk h=>Tr.at_.keep hk _ _ h⟩
def rM:El (Tr×ByteArray):=⟨Ex×ByteArray,λ y=>bI y.1++ [.string y.2],8,λ _=>rfl,λ w S x y=>x.1.at_ w S y.1/\y.2=x.2,λ hk h=>⟨Tr.at_.keep hk _ _ h.1,h.2⟩⟩
def sS:El (Tr×Bool):=⟨Ex×Bool,λ y=>bI y.1++ [.bool y.2],8,λ _=>rfl,λ w S x y=>x.1.at_ w S y.1/\y.2=x.2,λ hk h=>⟨Tr.at_.keep hk _ _ h.1,h.2⟩⟩
def Sa:El Int:=⟨Int,λ y=> [af y],1,λ _=>rfl,λ _ _ x y=>y=x,λ _ h=>h⟩
def jf (B:Nat)(w:World):Nat->Prop:=λ b=>B<=b/\b < w.heap.size
theorem cell_of_heap{w:World} {b:Nat}(h:w'.heap[b]?=w.heap[b]?)(o:Nat):w'.cell? ⟨b,o,none⟩=w.cell? ⟨b,o,none⟩:=by unfold World.cell?;simp only[h]
variable{g:Nat}
theorem lJ{w:World}(h:w.grownBy w' (some g))(hg:g < B):∀b,jf B w b->(∀o,w'.cell? ⟨b,o,none⟩=w.cell? ⟨b,o,none⟩)/\jf B w' b:=λ b hb=>
 ⟨cell_of_heap (h.block b hb.2 (λ e=>by injection e with e;have:=hb.1;omega)),hb.1,Nat.lt_of_lt_of_le hb.2 h.size⟩
theorem iL{w:World}(h:aj w w'):∀b,jf B w b->(∀o,w'.cell? ⟨b,o,none⟩=w.cell? ⟨b,o,none⟩)/\jf B w' b:=λ b hb=>
 ⟨cell_of_heap (h.block b hb.2),hb.1,Nat.lt_of_lt_of_le hb.2 h.size⟩
variable{q:Nat}
theorem sT{w:World}(hq:q < B)(i:Nat)(u:Value):∀b,jf B w b->(∀o,(w.setCell ⟨q,i,none⟩ u).cell? ⟨b,o,none⟩=w.cell? ⟨b,o,none⟩)/\jf B (w.setCell ⟨q,i,none⟩ u) b:=λ b hb=>
 ⟨cell_of_heap (Below.heap_setCell w ⟨q,i,none⟩ u b (by have:=hb.1;simp;omega)),hb.1,by simpa [World.setCell] using hb.2⟩
variable{B':Nat}
theorem iX{w:World}(h:B'<=B):∀b,jf B w b->(∀o,w.cell? ⟨b,o,none⟩=w.cell? ⟨b,o,none⟩)/\jf B' w b:=λ b hb=>⟨λ _=>rfl,Nat.le_trans h hb.1,hb.2⟩
section
variable {B B' g q:Nat} {w w':World} {t:Tr} {y:Ex}
theorem Tr.at_.grown (h:t.at_ w (jf B w) y)(hg:w.grownBy w' (some g))(hB:g < B):t.at_ w' (jf B w') y:=Tr.at_.keep (lJ hg hB) t y h
theorem Tr.at_.later (h:t.at_ w (jf B w) y)(hb:aj w w'):t.at_ w' (jf B w') y:=Tr.at_.keep (iL hb) t y h
theorem Tr.at_.set (h:t.at_ w (jf B w) y)(hq:q < B)(i:Nat)(u:Value):t.at_ (w.setCell ⟨q,i,none⟩ u) (jf B (w.setCell ⟨q,i,none⟩ u)) y:=Tr.at_.keep (sT hq i u) t y h
theorem Tr.at_.more (h:t.at_ w (jf B w) y)(hB:B'<=B):t.at_ w (jf B' w) y:=Tr.at_.keep (iX hB) t y h
end
section
variable {α:Type} {E:El α} {B B' g q:Nat} {w w':World} {A:Option Addr} {n:Nat} {l:List α}
theorem El.lies.more (h:E.lies w (jf B w) A n l)(hB:B'<=B):E.lies w (jf B' w) A n l:=h.keep (iX hB)
end
def Bx (B q:Nat)(w:World):Nat->Prop:=λ b=>B<=b/\b < w.heap.size/\b≠q
section
variable {B B' g q:Nat} {w w':World} {t:Tr} {y:Ex}
theorem wB (h:w.grownBy w' (some g))(hg:g < B):∀b,Bx B q w b->(∀o,w'.cell? ⟨b,o,none⟩=w.cell? ⟨b,o,none⟩)/\Bx B q w' b:=λ b hb=>
 ⟨cell_of_heap (h.block b hb.2.1 (λ e=>by injection e with e;have:=hb.1;omega)),hb.1,Nat.lt_of_lt_of_le hb.2.1 h.size,hb.2.2⟩
theorem BZ (h:aj w w'):∀b,Bx B q w b->(∀o,w'.cell? ⟨b,o,none⟩=w.cell? ⟨b,o,none⟩)/\Bx B q w' b:=λ b hb=>
 ⟨cell_of_heap (h.block b hb.2.1),hb.1,Nat.lt_of_lt_of_le hb.2.1 h.size,hb.2.2⟩
theorem YP (i:Nat)(u:Value):∀b,Bx B q w b->(∀o,(w.setCell ⟨q,i,none⟩ u).cell? ⟨b,o,none⟩=w.cell? ⟨b,o,none⟩)/\Bx B q (w.setCell ⟨q,i,none⟩ u) b:=λ b hb=>
 ⟨cell_of_heap (Below.heap_setCell w ⟨q,i,none⟩ u b (λ e=>hb.2.2 e)),hb.1,by simpa [World.setCell] using hb.2.1,hb.2.2⟩
theorem Pf (hB:B'<=B):∀b,Bx B q w b->(∀o,w.cell? ⟨b,o,none⟩=w.cell? ⟨b,o,none⟩)/\jf B' w b:=λ b hb=>⟨λ _=>rfl,Nat.le_trans hB hb.1,hb.2.1⟩
theorem Pg (o:Obj)(hB:B'<=B):∀b,jf B w b->(∀i,(w.alloc o).cell? ⟨b,i,none⟩=w.cell? ⟨b,i,none⟩)/\Bx B' w.heap.size (w.alloc o) b:=λ b hb=>
 ⟨cell_of_heap (Below.heap_alloc w o b hb.2),Nat.le_trans hB hb.1,by have:=hb.2;simp;omega,by have:=hb.2;omega⟩
theorem akL (hq:q < B)(hB:B'<=B):∀b,jf B w b->(∀i,w.cell? ⟨b,i,none⟩=w.cell? ⟨b,i,none⟩)/\Bx B' q w b:=λ b hb=>
 ⟨λ _=>rfl,Nat.le_trans hB hb.1,hb.2,by have:=hb.1;omega⟩
end
variable{G:Nat}{ys:List β}
theorem Ph{f:β->List Value} {size:Nat}(hf:∀x,(f x).length=size) {w:World}   {T:TypeId} (h:aC w G T (ys.flatMap f).toArray)(hS:S G):RL f size w S (some ⟨G,0,none⟩) ys:=by refine .inr ⟨G,0,rfl,hS,λ i y j u hy hu=>?_⟩;have:=xS hf ys i y hy j u hu;have hc:=h.cell (i*size+j);rw[Nat.zero_add,hc];exact Zfa
theorem uD (y:Ex):(bI y).length=7:=rfl
def uE:Val:=⟨0,0,⟨#[]⟩⟩
def opY (op:Int)(G n:Nat):Ex:=⟨op,uE,⟨#[]⟩,0,some ⟨G,0,none⟩,n,n⟩
variable{x2:Tr}{y2:Ex}
theorem afQ{w:World}   {T:TypeId} {x:Tr} (op:Int)(h:aC w G T (bI y++bI y2).toArray)(hS:S G)(hx:x.at_ w S y)(hx2:x2.at_ w S y2):(AJ op [x,x2]).at_ w S (opY op G 2):=by unfold AJ Tr.at_;exact⟨rfl,rfl,rfl,rfl,rfl,[y,y2],Ph uD Tal hS,Tr.aaG hx hx2⟩
theorem ID (w:World)(S:Nat->Prop)(v:Val):(tL v).at_ w S ⟨1,v,⟨#[]⟩,0,none,0,0⟩:=by unfold tL Tr.at_;exact ZgK
theorem Ca (w:World)(S:Nat->Prop)(n:ByteArray):(uC n).at_ w S ⟨2,uE,n,0,none,0,0⟩:=by unfold uC Tr.at_;exact ZgK
theorem afR (w:World)(S:Nat->Prop)(op:Int):(AJ op []).at_ w S ⟨op,uE,⟨#[]⟩,0,none,0,0⟩:=by unfold AJ Tr.at_;exact ZgK
inductive cq where
 | good (l:dI)
 | bad (n:Nat)
def cq.left:cq->Nat
 | .good l=>l.length
 | .bad n=>n
def cq.gT:cq->Bool
 | .good _=>true
 | .bad _=>false
def cq.words:cq->dI
 | .good l=>l
 | .bad _=> []
def dr(p:Ps α):cq->cq
 | .bad n=> .bad n
 | .good l=>match p l with
   | .ok (_,r)=> .good r
   | .error n=> .bad n
def jZ(p:Ps α):cq->α->Prop
 | .bad _,_=>True
 | .good l,x=>match p l with
   | .ok (y,_)=>x=y
   | .error _=>True
variable{σ:cq}
theorem Us{p:Ps α} {f:α->Ps β}  (h:jZ p σ x):dr (p >>= f) σ=dr (f x) (dr p σ):=by
 match σ with
 | .bad n=>rfl
 | .good l=>
   have apF:∀l,(p>>=f) l=match p l with | .error n=>.error n | .ok (x,r)=>f x r:=λ _=>rfl
   simp only[dr,jZ,apF] at h ⊢
   cases e:p l with
   | error n=>rfl
   | ok y=>obtain⟨y,r⟩:=y;rw[e] at h;simp only at h;subst h;rfl
theorem Ut(x:α)(σ:cq):dr (pure x:Ps α) σ=σ:=by cases σ <;> rfl
theorem FT(p:Ps α)(n:Nat)(x:α):jZ p (.bad n) x:=trivial
def cq.head (s:List UInt8)(σ:cq):Bool:=dJ s σ.words
theorem Lz (s:List UInt8)(σ:cq):dr (may s) σ=if σ.head s then .good σ.words.tail else σ:=by
 match σ with
 | .bad n=>rfl
 | .good l=>simp only[dr,may,cq.head,cq.words];exact Zih
theorem FU (s:List UInt8)(σ:cq):dr (must s) σ=if σ.head s then .good σ.words.tail else .bad σ.left:=by
 match σ with
 | .bad n=>rfl
 | .good l=>simp only[dr,must,cq.head,cq.words,cq.left];exact Zih
theorem Pj (p:Ps Unit)(σ:cq):jZ p σ ():=by
 match σ with
 | .bad n=>trivial
 | .good l=>simp only[jZ];split <;> trivial
def cq.of (W:dI):cq->Prop
 | .good l=>l <:+ W/\zk l
 | .bad n=>0 < n/\n<=W.length
variable{W:dI}
theorem cq.Pk(h:σ.of W):0 < σ.left/\σ.left<=W.length:=by
 match σ with
 | .bad n=>exact h
 | .good l=>exact⟨h.2.pos,h.1.length_le⟩
theorem cq.of_next{l:dI}(h:(cq.good l).of W):∃t r,l=t::r/\W[W.length - l.length]?=some t:=by
 obtain⟨⟨b,hb⟩,h2⟩:=h
 match l,h2.pos with
 | t::r,_=>refine⟨t,r,rfl,?_⟩;rw[<- hb,length_append,Nat.add_sub_cancel,getElem?_append_right (Nat.le_refl _),Nat.sub_self];rfl
def ij (p:UInt8->Bool)(l:List UInt8)(k:Nat):Nat:=k+((l.drop k).takeWhile p).length
theorem aaH (p:UInt8->Bool)(l:List UInt8)(k:Nat)(hk:k<=l.length):ij p l k<=l.length:=by have:=(takeWhile_sublist (p:=p) (l:=l.drop k)).length_le;simp only[length_drop] at this;unfold ij;omega
theorem eX (s:ByteArray)(k:Nat)(hk:k < s.size):s.data.toList[k]?=some s[k]:=by rw[getElem?_eq_getElem Ta5];simp[ByteArray.getElem_eq_getElem_data]
variable{l:List UInt8}
theorem cI{k:Nat} {c:UInt8}(h:l[k]?=some c):l.drop k=c::l.drop (k+1):=by
 have hk:k < l.length:=by
  rcases Nat.lt_or_ge k l.length with h' | h'
  ·exact h'
  ·rw[getElem?_eq_none h'] at h;cases h
 rw[drop_eq_getElem_cons hk];rw[getElem?_eq_getElem hk] at h;injection h with h;rw[h]
theorem Cb{p:UInt8->Bool}  {k:Nat} {c:UInt8}(h:l[k]?=some c)(hp:p c=true):ij p l k=ij p l (k+1):=by unfold ij;rw[cI h,takeWhile_cons,if_pos hp,length_cons];omega
theorem Sb{p:UInt8->Bool}  {k:Nat} {c:UInt8}(h:l[k]?=some c)(hp:p c=false):ij p l k=k:=by unfold ij;rw[cI h,takeWhile_cons,if_neg (by rw[hp];decide)];rfl
theorem LB{p:UInt8->Bool}  {k:Nat}(h:l.length<=k):ij p l k=k:=by unfold ij;rw[drop_eq_nil_of_le h];rfl
theorem Sc (p:UInt8->Bool):∀r:List UInt8,r.drop (r.takeWhile p).length=r.dropWhile p
 | []=>rfl
 | c::r=>by
   rw[takeWhile_cons,dropWhile_cons];split
   ·simpa using Sc p r
   ·rfl
theorem aaI (p:UInt8->Bool)(r:List UInt8):r.take (r.takeWhile p).length=r.takeWhile p:=by
 induction r with
 | nil=>rfl
 | cons c r ih=>
   rw[takeWhile_cons];split
   ·simpa using ih
   ·rfl
theorem Cc (p:UInt8->Bool)(l:List UInt8)(k:Nat):l.drop (ij p l k)=(l.drop k).dropWhile p:=by unfold ij;rw[<- drop_drop,Sc]
theorem LC (p:UInt8->Bool)(l:List UInt8)(k:Nat):(l.drop k).take (ij p l k - k)=(l.drop k).takeWhile p:=by unfold ij;rw[Nat.add_sub_cancel_left,aaI]
theorem kj:∀(b:Bool) (r:List UInt8),cD b r <:+ r
 | _,[]=>by simp[cD]
 | true,c::r=>by
   simp only[cD];split
   ·exact(kj false r).trans (suffix_cons _ _)
   ·exact(kj true r).trans (suffix_cons _ _)
 | false,c::r=>by
   simp only[cD];split
   ·exact(kj false r).trans (suffix_cons _ _)
   ·split
    ·exact(kj true r).trans (suffix_cons _ _)
    ·exact suffix_refl _
theorem drop_suffix(h:r <:+ l):l.drop (l.length - r.length)=r:=by obtain⟨p,rfl⟩:=h;simp
theorem YQ (l:List UInt8)(c:UInt8):ly (l++ [c])=ly l*10+(c.toNat - 48):=by simp[ly]
theorem YR (l:List UInt8):∀v,v<=l.foldl (λ v c=>v*10+(c.toNat - 48)) v:=by
 induction l with
 | nil=>intro v;exact Nat.le_refl _
 | cons c l ih=>intro v;have:=ih (v*10+(c.toNat - 48));simp only[foldl_cons];omega
theorem Sd{p:UInt8->Bool}(l:List UInt8):∀c∈l.takeWhile p,p c=true:=λ c hc=>List.all_eq_true.1 (all_takeWhile (p:=p) (l:=l)) c hc
def akM (f:FuncId)(p:UInt8->Bool):Prop:=∀(c:UInt8) (W:World),ar f #[ag (c.toNat:Int)] W λ e w'=>e=.returned (.bool (p c))/\W=w'
theorem ml{a b:Bool}(h:a=b):Ending.returned (.bool a)=.returned (.bool b):=by rw[h]
theorem nk{k:IntKind} {a b:Int}(h:a=b):Ending.returned (.int k a)=.returned (.int k b):=by rw[h]
theorem Pl (c:UInt8):fN c=((decide ((97:Int)<=c.toNat)&& decide ((c.toNat:Int)<=122))||(decide ((65:Int)<=c.toNat)&& decide ((c.toNat:Int)<=90))||((c.toNat:Int)==95)):=by rw[Bool.eq_iff_iff];simp only[fN,UInt8.le_iff_toNat_le,<- UInt8.toNat_inj,Bool.or_eq_true,Bool.and_eq_true,decide_eq_true_eq,beq_iff_eq];simp;omega
theorem Uu (c:UInt8):bE c=(decide ((48:Int)<=c.toNat)&& decide ((c.toNat:Int)<=57)):=by rw[Bool.eq_iff_iff];simp only[bE,UInt8.le_iff_toNat_le,Bool.and_eq_true,decide_eq_true_eq];simp;omega
theorem afS (c:UInt8)(k:UInt8):(c==k)=((c.toNat:Int)==(k.toNat:Int)):=by rw[Bool.eq_iff_iff];simp[<- UInt8.toNat_inj];omega
theorem xT (c:UInt8):rI c=(((c.toNat:Int)==32)||((c.toNat:Int)==9)||((c.toNat:Int)==10)||((c.toNat:Int)==13)):=by simp only[rI,afS];rfl
theorem bR{w:World}  {t:TypeId} {a b c d:Value}(h:aC w q t #[a,b,c,d]):
  w.cell? ⟨q,0,none⟩=some a/\w.cell? ⟨q,1,none⟩=some b/\w.cell? ⟨q,2,none⟩=some c/\w.cell? ⟨q,3,none⟩=some d/\w.frozen? ⟨q,0,none⟩=false/\w.frozen? ⟨q,1,none⟩=false/\w.frozen? ⟨q,2,none⟩=false/\w.frozen? ⟨q,3,none⟩=false:=
 ⟨h.cell 0,h.cell 1,h.cell 2,h.cell 3,h.frozen 0,h.frozen 1,h.frozen 2,h.frozen 3⟩
theorem pE (s:ByteArray)(a b:Nat):(s.extract a b).data.toList=(s.data.toList.take b).drop a:=by rw[ByteArray.data_extract,Array.toList_extract,extract_eq_take_drop,drop_take]
def fJ (s:ByteArray)(a:Nat):Nat:=s.size - (cD false (s.data.toList.drop a)).length
theorem np (s:ByteArray)(a:Nat):s.data.toList.drop (fJ s a)=cD false (s.data.toList.drop a):=by have h:cD false (s.data.toList.drop a)<:+ s.data.toList:=(kj _ _).trans (List.drop_suffix _ _);have:=drop_suffix h;simpa [fJ] using this
theorem xU (s:ByteArray)(a:Nat):fJ s a<=s.size:=Nat.sub_le _ _
theorem Uv(s:ByteArray) {a b:Nat}(h:cD false (s.data.toList.drop a)=cD false (s.data.toList.drop b)):fJ s a=fJ s b:=by unfold fJ;rw[h]
theorem nr (p:UInt8->Bool)(s:ByteArray)(k:Nat):(s.extract k (ij p s.data.toList k)).data.toList=(s.data.toList.drop k).takeWhile p:=by rw[pE,<- LC,drop_take]
theorem aaJ (p:UInt8->Bool)(l:List UInt8)(k:Nat):ij p l k - k=((l.drop k).takeWhile p).length:=by unfold ij;omega
theorem wC(p:UInt8->Bool)(s:ByteArray) {k:Nat}(hk:k<=s.size):s.size - ((s.data.toList.drop k).dropWhile p).length=ij p s.data.toList k:=by rw[<- Cc,length_drop];have:=aaH p s.data.toList k Ta5;simp at this ⊢;omega
def more (acc:List UInt8)(x:Option (List UInt8×List UInt8)):Option (List UInt8×List UInt8):=x.map λ y=>(acc++y.1,y.2)
theorem YS (x:Option (List UInt8×List UInt8)):more [] x=x:=by cases x <;> rfl
theorem Pm{c:UInt8}(h:c≠39)(r acc:List UInt8):more acc (fO (c::r))=more (acc++ [c]) (fO r):=by
 cases r with
 | nil=>simp[fO,h,more]
 | cons d r=>simp only[fO,if_neg h,more];cases fO (d::r)<;> simp
theorem YT (r acc:List UInt8):more acc (fO (39::39::r))=more (acc++ [39]) (fO r):=by simp only[fO,more,if_true];cases fO r <;> simp
theorem LD(h:r.head?≠some 39)(acc:List UInt8):more acc (fO (39::r))=some (acc,r):=by
 cases r with
 | nil=>simp[fO,more]
 | cons d r=>
   have:d≠39:=λ e=>h (by rw[e];rfl)
   simp[fO,this,more]
theorem Ce (w:World)(a b:Nat):(w.drewN a).drewN b=w.drewN (a+b):=by simp[World.drewN,Nat.add_assoc]
theorem aaK{i:Nat}(hi:i < 15):∃x,signs[i]?=some x/\signs.drop i=x::signs.drop (i+1)/\1<=x.length/\x.length<=2:=by
 have key:∀i,i < 15->∃x,signs[i]?=some x/\1<=x.length/\x.length<=2:=by
  intro i hi
  match i,hi with
  | 0,_ | 1,_ | 2,_ | 3,_ | 4,_ | 5,_ | 6,_ | 7,_ | 8,_ | 9,_ | 10,_ | 11,_ | 12,_ | 13,_ | 14,_=>exact⟨_,rfl,by decide,by decide⟩
  | n+15,h=>omega
 obtain⟨x,h1,h2,h3⟩:=key i hi;refine⟨x,h1,?_,h2,h3⟩;have hlt:i < signs.length:=hi;exact ZgH
theorem Sg:nN.length=27:=by decide+kernel
theorem afT{i:Nat}(hi:i < 27):∃x,nN[i]?=some x/\nN.take (i+1)=nN.take i++ [x]/\(nN.take i).contains x=false:=by
 have hlt:i < nN.length:=by rw[Sg];exact hi
 refine⟨nN[i],getElem?_eq_getElem hlt,by rw[take_succ_eq_append_getElem hlt],?_⟩;have key:(List.range 27).all (λ i=> !(nN.take i).contains (nN.getD i []))=true:=by decide+kernel
 have:=List.all_eq_true.1 key i (List.mem_range.2 hi);rw[getD_eq_getElem?_getD,getElem?_eq_getElem hlt] at this;exact Zfa
theorem Uw (c:UInt8):(Ir c=true/\decide ((65:Int)<=c.toNat)=true/\decide ((c.toNat:Int)<=90)=true)\/(Ir c=false/\decide ((65:Int)<=c.toNat)=true/\decide ((c.toNat:Int)<=90)=false)\/(Ir c=false/\decide ((65:Int)<=c.toNat)=false):=by
 have e:Ir c=(decide ((65:Int)<=c.toNat)&& decide ((c.toNat:Int)<=90)):=by rw[Bool.eq_iff_iff];simp only[Ir,UInt8.le_iff_toNat_le,Bool.and_eq_true,decide_eq_true_eq];simp;omega
 rw[e];by_cases h1:(65:Int)<=c.toNat <;> by_cases h2:(c.toNat:Int)<=90 <;> simp[h1,h2]
def YU (b:Bool)(w:World)(e:Ending)(w':World):Prop:=e=.returned (.bool b)/\aj w w'
theorem ei:akM 174 fN:=by intro c W;rw[Pl];have h1:=c.toNat_lt;generalize c.toNat=n at*;go_enter Tryz.func174,Tryz.ntmps174;exact ZeG
theorem eM:akM 175 bE:=by intro c W;rw[Uu];have h1:=c.toNat_lt;generalize c.toNat=n at*;go_enter Tryz.func175,Tryz.ntmps175;exact ZeG
theorem Er (w:World):ar 198 #[] w λ e w'=>e=.returned (aF w.heap.size 27 27)/\w'=w.alloc (.cells (nN.map λ l=>Value.string ⟨l.toArray⟩).toArray 9):=by go_enter Tryz.func198,Tryz.ntmps198;exact ZdA
theorem YV{i:Nat} {x:List UInt8}(h1:nN[i]?=some x):nN.drop i=x::nN.drop (i+1):=by
 have hlt:i < nN.length:=by
  rcases Nat.lt_or_ge i nN.length with h | h
  ·exact h
  ·rw[getElem?_eq_none h] at h1;cases h1
 exact ZgH
theorem Ux (l:List UInt8):(⟨l.toArray⟩:ByteArray).toList=l:=by rw[ByteArray.toList_eq]
theorem Es (s:ByteArray)(w:World):ar 183 #[.string s] w (YU (tK s.data.toList) w):=by
 go_enter Tryz.func183,Tryz.ntmps183;go_wp2_with fail;refine(Er w).mono ?_;rintro e w1 ⟨rfl,rfl⟩;have HB:=aa (aC.new w 9 (nN.map λ l=>Value.string ⟨l.toArray⟩).toArray);have b1:=ah w (.cells (nN.map λ l=>Value.string ⟨l.toArray⟩).toArray 9);generalize w.alloc (.cells (nN.map λ l=>Value.string ⟨l.toArray⟩).toArray 9)=W at*;go_wp2_with fail;go_loop [4] (λ u=>∃i:Nat,i<=27/\u=af i/\tK s.data.toList=(nN.drop i).contains s.data.toList) (λ u=>27 - (intOf u).toNat);case atStart=>exact⟨0,by omega,rfl,rfl⟩
 case round=>
  obtain⟨i,hi,rfl,Kd⟩:=hrel;have Pn:=aa Kd;clear Kd;by_cases hlt:i < 27
  ·obtain⟨x,hx,_,_⟩:=afT hlt;have hcell:=HB.ae.cell i;have hx2:(nN.map λ l=>Value.string ⟨l.toArray⟩).toArray[i]?=some (.string ⟨x.toArray⟩):=by simp[hx]
   rw[hx2] at hcell;have S9:=aa (YV hx);have e0:=Ux x;have IE:=aa e0;clear hx hx2 e0;by_cases he:s.data.toList=x
   ·have HE:=aa he;have t2:(x==s.toList)=true:=by rw[ByteArray.toList_eq,he];simp
    clear he;go_wp2_with fail;go_ret;refine⟨ml ?_,b1⟩;rw[Pn.ae,S9.ae,HE.ae];simp
   ·have HE:=aa he;have t2:(x==s.toList)=false:=by rw[ByteArray.toList_eq,beq_eq_false_iff_ne];exact λ e=>he e.symm
    clear he;go_wp2_with fail;go_round
    case rel=>
     refine⟨i+1,by omega,by go_num,?_⟩;rw[Pn.ae,S9.ae,contains_cons];have:(s.data.toList==x)=false:=by simpa using HE.ae
     rw[this];rfl
    case measure=>exact Za6
  ·obtain rfl:i=27:=by omega
   go_wp2_with fail;go_ret;refine⟨ml ?_,b1⟩;rw[Pn.ae,drop_eq_nil_of_le (Nat.le_of_eq Sg)];rfl
theorem IG (w:World)(g:Nat)(c:UInt8)(h:aC w g 5 #[ag (c.toNat:Int)]):(convert 97 9 (aF g 1 1)).run Tryz.prog w=.ok (.string ⟨#[c]⟩) w:=by
 have:=run_convert_bytes_back (P:=Tryz.prog) w 97 9 5 ⟨g,0,none⟩ 1 [c] Tryz.underlying97 Tryz.underlying5 Tryz.underlying9 (λ j hj=>by
  have:j=0:=by simpa using hj
  subst this
  have h0:=h.cell 0
  simpa [Addr.add] using h0)
 exact Zfa
theorem aaL{c:UInt8}(h:Ir c=true):(wk c).toNat=c.toNat+32:=by unfold wk;rw[if_pos h];simp[Ir,UInt8.le_iff_toNat_le] at h;rw[UInt8.toNat_add];simp;omega
theorem Sh{c:UInt8}(h:Ir c=false):wk c=c:=by unfold wk;rw[h];rfl
theorem mm (l:List UInt8)(c:UInt8):(⟨l.toArray⟩:ByteArray)++⟨#[c]⟩=⟨(l++ [c]).toArray⟩:=by apply ByteArray.ext;simp
theorem FV (s:ByteArray)(w:World)(hs:s.size<=4294967280):ar 176 #[.string s] w λ e w'=>e=.returned (.string ⟨(s.data.toList.map wk).toArray⟩)/\aj w w':=by
 have HLEN:=aa (show s.data.toList.length=s.size by simp);go_enter Tryz.func176,Tryz.ntmps176;go_wp2_with fail;go_loopw [3,4] (λ x u wr=>∃(i:Nat) (l:List UInt8),i<=s.size/\u=af i/\x=.string ⟨l.toArray⟩/\l.length=i/\s.data.toList.map wk=l++(s.data.toList.drop i).map wk/\aj w wr) (λ _ u _=>s.size - (intOf u).toNat);case atStart=>exact⟨0,[],by omega,rfl,rfl,rfl,rfl,Below.refl _ _⟩
 case round=>
  obtain⟨i,l,hi,rfl,rfl,hl,hm,hb⟩:=hrel;have HM:=aa hm;have hl2:l.length<=s.size:=by omega
  have HL:=aa hl;have Aa:=aa (show l.length<=s.size by omega);clear hm hl;by_cases hlt:i < s.size
  ·have HD:=aa (cI (eX s i hlt));rcases Uw s[i] with ⟨hc,t1,t2⟩|⟨hc,t1,t2⟩|⟨hc,t1⟩
   ·have LF:=aaL hc;have hn:s[i].toNat<=90:=by have:=of_decide_eq_true t2;omega
    have hr:=IG _ _ (wk s[i]) (aC.new wr 5 #[ag ((wk s[i]).toNat:Int)]);rw[LF] at hr;rw[show((s[i].toNat+32:Nat):Int)=(s[i].toNat:Int)+32 from rfl] at hr;have uF:=aa LF;clear LF hc;go_wp2_with fail;go_roundw;case rel=>refine⟨i+1,l++ [wk s[i]],by omega,by go_num,by rw[mm],by rw[length_append,HL.ae];rfl,?_,hb.trans ((ah wr _).mono hb.size)⟩;rw[HM.ae,HD.ae];simp
    case measure=>exact Za6
   ·exact ZcH
   ·exact ZcH
  ·go_wp2_with fail;go_ret;refine⟨?_,hb⟩;rw[HM.ae,drop_eq_nil_of_le Tas];simp
theorem Cf{s:ByteArray} {a b:Nat}(h:cD false (s.data.toList.drop a)=cD false (s.data.toList.drop b)):fJ s a=fJ s b:=Uv s h
theorem sU{s:ByteArray} {a:Nat}(ha:a<=s.size)(h:cD false (s.data.toList.drop a)=s.data.toList.drop a):fJ s a=a:=by unfold fJ;rw[h,length_drop];simp;omega
theorem zjr.KcG(h:p:=by rintro⟨_,h⟩;rw[II.ae] at h;exact H46.ae Tal):p:=h
theorem zjs.KcG(h:p:=by rintro⟨_,h⟩;rw[drop_eq_nil_of_le Tas] at h;simp at h):p:=h
theorem zjt.KcG(h:p:=by rintro⟨h,_⟩;exact H45.ae h):p:=h
theorem FW (s:ByteArray)(at_:Nat)(w:World)(ha:at_<=s.size)(hs:s.size<=4294967280):ar 131 #[.string s,af at_] w λ e w'=>e=.returned (af (fJ s at_))/\w=w':=by
 have HLEN:=aa (show s.data.toList.length=s.size by simp);go_enter Tryz.func131,Tryz.ntmps131;go_wp2_with fail;go_loop [1] (λ u=>∃a:Nat,a<=s.size/\u=af a/\fJ s at_=fJ s a) (λ u=>s.size - (intOf u).toNat);case atStart=>exact⟨at_,ha,rfl,rfl⟩
 case round=>
  obtain⟨a,hle,rfl,hf⟩:=hrel;have HS:=aa hf;clear hf;by_cases hlt:a < s.size
  ·have HD:=aa (cI (eX s a hlt));cases hb:rI s[a]
   ·have AO:s[a]=45\/s[a]≠45:=by by_cases h:s[a]=45 <;> simp[h]
    rw[xT] at hb;simp only[Bool.or_eq_false_iff] at hb;obtain⟨⟨⟨b1,b2⟩,b3⟩,b4⟩:=hb;have HB:=aa (show rI s[a]=false by rw[xT,b1,b2,b3,b4];rfl);rcases AO with AO | AO
    ·have t1:(((s[a].toNat:Nat):Int)==45)=true:=by rw[AO];rfl
     have t2:(((s[a].toNat:Nat):Int) != 45)=false:=by rw[AO];rfl
     have H45:=aa AO;clear AO;by_cases arD:a+1 < s.size
     ·have II:=aa (cI (eX s (a+1) arD));have n1:=decide_eq_false (show¬((s.size:Int)<=(a:Int)+1) by omega);by_cases h46:s[a+1]=45
      ·have u1:(((s[a+1].toNat:Nat):Int)==45)=true:=by rw[h46];rfl
       have u2:(((s[a+1].toNat:Nat):Int) != 45)=false:=by rw[h46];rfl
       have HC:=aa (show cD false (s.data.toList.drop a)=cD true (s.data.toList.drop a) by
        rw[HD.ae,II.ae,h46,H45.ae]
        simp[cD,rI])
       clear h46;go_wp2_with fail;go_loop [1] (λ u=>∃k:Nat,a<=k/\k<=s.size/\u=af k/\cD false (s.data.toList.drop a)=cD true (s.data.toList.drop k)) (λ u=>s.size - (intOf u).toNat);case atStart=>exact⟨a,Nat.le_refl _,hle,rfl,HC.ae⟩
       case round=>
        obtain⟨k,FX,hk2,rfl,hf⟩:=hrel;have HF:=aa hf;clear hf;by_cases Ax:k < s.size
        ·have HDK:=aa (cI (eX s k Ax));by_cases h10:s[k]=10
         ·have v1:(((s[k].toNat:Nat):Int)==10)=true:=by rw[h10];rfl
          have v2:(((s[k].toNat:Nat):Int) != 10)=false:=by rw[h10];rfl
          have H10:=aa h10;have hne:a≠k:=by intro e;subst e;have:=H45.ae.symm.trans h10;exact absurd this Taa
          clear h10;go_wp2_with fail;go_round;case rel=>refine⟨k,hk2,rfl,?_⟩;rw[HS.ae];refine Cf ?_;rw[HF.ae,HDK.ae,H10.ae];simp[cD,rI]
          case measure=>exact Za6
         ·have v1:(((s[k].toNat:Nat):Int)==10)=false:=by rw[beq_eq_false_iff_ne];intro h;exact h10 (UInt8.toNat_inj.1 (by simpa using(by omega:s[k].toNat=10)))
          have v2:(((s[k].toNat:Nat):Int) != 10)=true:=by simpa [bne] using v1
          have H10:=aa h10;clear h10;go_wp2_with fail;go_round;case rel=>refine⟨k+1,by omega,Ax,by go_num,?_⟩;rw[HF.ae,HDK.ae,cD,if_neg H10.ae]
          case measure=>exact Za6
        ·go_wp2_with fail;go_round;case rel=>refine⟨k,hk2,rfl,?_⟩;rw[HS.ae];refine Cf ?_;rw[HF.ae,drop_eq_nil_of_le Tas];simp[cD]
         case measure=>exact Za6
      ·have u1:(((s[a+1].toNat:Nat):Int)==45)=false:=by rw[beq_eq_false_iff_ne];intro h;exact h46 (UInt8.toNat_inj.1 (by simpa using(by omega:s[a+1].toNat=45)))
       have u2:(((s[a+1].toNat:Nat):Int) != 45)=true:=by simpa [bne] using u1
       have H46:=aa h46;clear h46;open zjr in exact Zh9
     ·have n1:=decide_eq_true (show((s.size:Int)<=(a:Int)+1) by omega);open zjs in exact Zh9
    ·have t1:(((s[a].toNat:Nat):Int)==45)=false:=by rw[beq_eq_false_iff_ne];intro h;exact AO (UInt8.toNat_inj.1 (by simpa using(by omega:s[a].toNat=45)))
     have t2:(((s[a].toNat:Nat):Int) != 45)=true:=by simpa [bne] using t1
     have H45:=aa AO;clear AO;open zjt in exact Zh9
   ·have HB:=aa hb;rw[xT] at hb;cases b1:(((s[a].toNat:Nat):Int)==32)<;> cases b2:(((s[a].toNat:Nat):Int)==9)<;> cases b3:(((s[a].toNat:Nat):Int)==10)<;> cases b4:(((s[a].toNat:Nat):Int)==13);all_goals try (exfalso;rw[b1,b2,b3,b4] at hb;exact absurd hb Taa)
    all_goals
     clear hb;go_wp2_with fail;go_round;case rel=>refine⟨a+1,hlt,by go_num,?_⟩;rw[HS.ae];refine Cf ?_;rw[HD.ae,cD,if_pos HB.ae]
     case measure=>simp[intOf];omega
  ·go_wp2_with fail;go_ret;refine⟨nk ?_,rfl⟩;rw[HS.ae,sU hle];rw[drop_eq_nil_of_le Tas];rfl
theorem YW:∀(l:List UInt8) (v:Nat),v*10 ^ l.length<=l.foldl (λ v c=>v*10+(c.toNat - 48)) v
 | [],v=>by simp
 | c::l,v=>by
   have:=YW l (v*10+(c.toNat - 48));simp only[foldl_cons,length_cons,Nat.pow_succ];have h:v*10*10 ^ l.length<=(v*10+(c.toNat - 48))*10 ^ l.length:=Nat.mul_le_mul_right _ WC;have e:v*(10 ^ l.length*10)=v*10*10 ^ l.length:=by rw[Nat.mul_comm (10 ^ l.length),Nat.mul_assoc]
   rw[e];omega
theorem YX(hd:∀c∈l,bE c=true)(hl:19 < l.length)(h0:l.head?≠some 48):9223372036854775807 < ly l:=by
 match l with
 | []=>simp at hl
 | c::r=>
   have hc:=hd c mem_cons_self;simp[bE,UInt8.le_iff_toNat_le] at hc;have h48:c.toNat≠48:=λ e=>h0 (by rw[show c=48 from UInt8.toNat_inj.1 e];rfl)
   have h1:=YW r (0*10+(c.toNat - 48));have h2:10 ^ 19<=10 ^ r.length:=Nat.pow_le_pow_right Taa (by simp at hl;omega);have h3:1*10 ^ r.length<=(0*10+(c.toNat - 48))*10 ^ r.length:=Nat.mul_le_mul_right _ WC;show _ < List.foldl _ _ _;rw[foldl_cons];have h4:(10:Nat)^ 19=10000000000000000000:=by decide
   omega
theorem YY{i:Nat} {c:UInt8}(h:l[i]?=some c):ly (l.take (i+1))=ly (l.take i)*10+(c.toNat - 48):=by rw[take_add_one,h];exact YQ _ _
theorem Po (l:List UInt8)(i:Nat):ly (l.take i)<=ly l:=by
 conv=>rhs;rw[<- take_append_drop i l]
 unfold ly;rw[foldl_append];exact YR _ _
theorem YZ{c:UInt8}(h:bE c=true):48<=c.toNat/\c.toNat<=57:=by simpa [bE,UInt8.le_iff_toNat_le] using h
def jN (q:List UInt8)(w:World)(e:Ending)(w':World):Prop:=(if wu q=true then e=.returned (.tuple #[af (ly q),.bool true])else e=.returned (.tuple #[af 0,.bool false]))/\w=w'
variable{e:Ending}
theorem Pp{q:List UInt8} {w:World} (h:wu q=false)(he:e=.returned (.tuple #[af 0,.bool false])):jN q w e w:=by unfold jN;rw[h,if_neg Taa];exact⟨he,rfl⟩
theorem aaM{q:List UInt8} {w:World} (h:wu q=true)(he:e=.returned (.tuple #[af (ly q),.bool true])):jN q w e w:=by unfold jN;rw[if_pos h];exact⟨he,rfl⟩
theorem zn (s:ByteArray)(w:World)(hd:∀c∈s.data.toList,bE c=true)(h0:0 < s.size)(hs:s.size<=4294967280):ar 177 #[.string s] w (jN s.data.toList w):=by
 have HLEN:=aa (show s.data.toList.length=s.size by simp);have HDG:=aa hd;have Si:s.data.toList.head?=some s[0]:=by rw[head?_eq_getElem?];exact eX s 0 h0
 have HH:=aa Si;clear hd Si;by_cases hz:1 < s.size/\s[0]=48
 ·have t1:(((s[0].toNat:Nat):Int)==48)=true:=by rw[hz.2];rfl
  have HB:=aa (show wu s.data.toList=false by
   have:¬s.data.toList.length<=1:=by rw[HLEN.ae];omega
   simp only[wu,HH.ae,hz.2,this]
   rfl)
  have hz1:=hz.1;exact Zg4
 ·by_cases akN:19 < s.size
  ·have t1:(((s[0].toNat:Nat):Int)==48)=false:=by rw[beq_eq_false_iff_ne];intro h;exact hz ⟨by omega,UInt8.toNat_inj.1 Tbm⟩
   have HB:=aa (show wu s.data.toList=false by
    have h1:=YX HDG.ae (by rw[HLEN.ae];exact akN) (by rw[HH.ae];intro e;injection e with e;exact hz ⟨by omega,e⟩)
    have h2:¬ly s.data.toList<=9223372036854775807:=by omega
    simp only[wu,h2]
    simp)
   exact Zg4
  ·have HF:=aa (show(decide (s.data.toList.length<=1)|| !(s.data.toList.head?==some 48))=true by
    rw[HLEN.ae,HH.ae]
    by_cases h1:s.size<=1
    ·simp[h1]
    ·have:s[0]≠48:=λ e=>hz ⟨by omega,e⟩
     simp[h1,this])
   have hz2:¬(1 < s.size)\/(1 < s.size/\(((s[0].toNat:Nat):Int)==48)=false):=by
    by_cases h1:1 < s.size
    ·refine .inr ⟨h1,?_⟩;rw[beq_eq_false_iff_ne];intro h;exact hz ⟨h1,UInt8.toNat_inj.1 Tbm⟩
    ·exact .inl h1
   clear hz
   rcases hz2 with hz2 |⟨hz1,hz2⟩;all_goals
    go_enter Tryz.func177,Tryz.ntmps177;go_wp2_with fail;go_loop [4,5] (λ v u=>∃i:Nat,i<=s.size/\u=af i/\v=af (ly (s.data.toList.take i):Nat)/\ly (s.data.toList.take i)<=9223372036854775807) (λ _ u=>s.size - (intOf u).toNat);case atStart=>exact⟨0,by omega,rfl,rfl,by simp[ly]⟩
    case round=>
     obtain⟨i,hi,rfl,rfl,hv⟩:=hrel;by_cases hlt:i < s.size
     ·have HB:=aa (eX s i hlt);obtain⟨d1,d2⟩:=YZ (HDG.ae s[i] (mem_of_getElem? HB.ae));have HV:=aa (YY HB.ae);have Cg:=aa (Po s.data.toList (i+1));generalize NV:ly (s.data.toList.take i)=v at*;have HVV:=aa NV;clear NV;by_cases LG:v*10+(s[i].toNat - 48)<=9223372036854775807
      ·have n1:=decide_eq_false (show¬((9223372036854775807 - ((s[i].toNat:Int) - 48))/ 10 <(v:Int)) by omega);go_wp2_with fail;go_round;case rel=>
        refine⟨i+1,hlt,by go_num,?_,by rw[HV.ae];exact LG⟩;rw[HV.ae];have:((v*10+(s[i].toNat - 48):Nat):Int)=(v:Int)*10+((s[i].toNat:Int) - 48):=by omega
        rw[this]
       case measure=>simp[intOf];omega
      ·have n1:=decide_eq_true (show((9223372036854775807 - ((s[i].toNat:Int) - 48))/ 10 <(v:Int)) by omega);go_wp2_with fail;go_ret2;refine Pp ?_ rfl;have h1:=Cg.ae;rw[HV.ae] at h1;have h2:¬ly s.data.toList<=9223372036854775807:=by omega
       simp only[wu,h2];simp
     ·go_wp2_with fail;go_ret2;have e1:s.data.toList.take i=s.data.toList:=take_of_length_le Tas;rw[e1] at hv ⊢;exact aaM (by rw[wu,HF.ae];simpa using hv) rfl
def Ab (s:ByteArray)(at_:Nat)(w:World)(r:Except Nat (Wd×List UInt8))(e:Ending)(w':World):Prop:=
 match r with
 | .ok (d,rest)=>e=.returned (.tuple #[.agg #[ag d.k,.string ⟨d.s.toArray⟩,af d.n,af at_],af (s.size - rest.length:Nat),af 0])/\aj w w'
 | .error x=>e=.returned (.tuple #[.agg #[ag 0,au,af 0,af 0],af 0,af x])/\aj w w'
theorem wD{w:World}(h:Below B w w') (hq:B<=q)(a b c d:Value):Below B w ((((w'.setCell ⟨q,0,none⟩ a).setCell ⟨q,1,none⟩ b).setCell ⟨q,2,none⟩ c).setCell ⟨q,3,none⟩ d):=
 (((h.setCell (p:=⟨q,0,none⟩) hq a).setCell (p:=⟨q,1,none⟩) hq b).setCell (p:=⟨q,2,none⟩) hq c).setCell (p:=⟨q,3,none⟩) hq d
theorem Za (s:ByteArray)(at_:Nat)(w:World)(ha:at_ < s.size)(hdg:fN s[at_]=true)(hs:s.size<=4294967280):
  ar 132 #[.string s,af at_] w (Ab s at_ w (ie (s.data.toList.drop at_))):=by
 have hd:=cI (eX s at_ ha);have hc:ie (s.data.toList.drop at_)=if ij eR s.data.toList at_ - at_<=32 then .ok (⟨1,((s.data.toList.drop at_).takeWhile eR).map wk,0⟩,(s.data.toList.drop at_).dropWhile eR)else .error 2:=by rw[aaJ,hd];simp only[ie,if_pos hdg]
 generalize ie (s.data.toList.drop at_)=R at*;have R7:=aa hc;have HL0:=aa hdg;have HLEN:=aa (show s.data.toList.length=s.size by simp);clear hc hd hdg;go_enter Tryz.func132,Tryz.ntmps132;go_wp2_with (go_at_call 174;refine(ei s[at_] _).mono ?_;rintro e w' ⟨rfl,rfl⟩;rw[HL0.ae]);have HZ:=aa (aC.new w 172 #[ag 0,au,af 0,af 0]);have bb:=ah w (.cells #[ag 0,au,af 0,af 0] 172);have hsz:(w.alloc (.cells #[ag 0,au,af 0,af 0] 172)).heap.size=w.heap.size+1:=by simp
 generalize w.alloc (.cells #[ag 0,au,af 0,af 0] 172)=W at*;have HSZ:=aa hsz;clear hsz;go_loop [8] (λ u=>∃k:Nat,at_<=k/\k<=s.size/\u=af k/\ij eR s.data.toList at_=ij eR s.data.toList k) (λ u=>s.size - (intOf u).toNat);case atStart=>exact⟨at_,Nat.le_refl _,by omega,rfl,rfl⟩
 case round=>
  obtain⟨k,FX,hk2,rfl,hf⟩:=hrel;have HF:=aa hf;clear hf;by_cases Ax:k < s.size
  ·have HB:=aa (eX s k Ax);cases hl:fN s[k]
   ·have HL:=aa hl;cases hd:bE s[k]
    ·have HD:=aa hd;have mV:=aa (show ij eR s.data.toList at_=k by rw[HF.ae];exact Sb HB.ae (by simp[eR,hl,hd]));clear hl hd;by_cases h32:k - at_<=32
     ·have n1:=decide_eq_false (show¬(32:Int)<(k:Int) - at_ by omega);go_wp2_with (first
       |(go_at_call 174;refine(ei s[k] _).mono ?_;rintro e w' ⟨rfl,rfl⟩;rw[HL.ae])
       |(go_at_call 175;refine(eM s[k] _).mono ?_;rintro e w' ⟨rfl,rfl⟩;rw[HD.ae]))
      exact Zbe
     ·have n1:=decide_eq_true (show(32:Int)<(k:Int) - at_ by omega);obtain⟨z0,z1,z2,z3,y0,y1,y2,y3⟩:=bR HZ.ae;go_wp2_with (first
       |(go_at_call 174;refine(ei s[k] _).mono ?_;rintro e w' ⟨rfl,rfl⟩;rw[HL.ae])
       |(go_at_call 175;refine(eM s[k] _).mono ?_;rintro e w' ⟨rfl,rfl⟩;rw[HD.ae]))
      exact ZfB
    ·have HD:=aa hd;have mV:=aa (show ij eR s.data.toList at_=ij eR s.data.toList (k+1) by rw[HF.ae];exact Cb HB.ae (by simp[eR,hl,hd]));clear hl hd;go_wp2_with (first
      |(go_at_call 174;refine(ei s[k] _).mono ?_;rintro e w' ⟨rfl,rfl⟩;rw[HL.ae])
      |(go_at_call 175;refine(eM s[k] _).mono ?_;rintro e w' ⟨rfl,rfl⟩;rw[HD.ae]))
     exact Zeu
   ·have HL:=aa hl;have mV:=aa (show ij eR s.data.toList at_=ij eR s.data.toList (k+1) by rw[HF.ae];exact Cb HB.ae (by simp[eR,hl]));clear hl;go_wp2_with (go_at_call 174;refine(ei s[k] _).mono ?_;rintro e w' ⟨rfl,rfl⟩;rw[HL.ae]);exact Zeu
  ·have mV:=aa (show ij eR s.data.toList at_=k by rw[HF.ae];exact LB Tas);by_cases h32:k - at_<=32
   ·have n1:=decide_eq_false (show¬(32:Int)<(k:Int) - at_ by omega);go_wp2_with fail;exact Zbe
   ·have n1:=decide_eq_true (show(32:Int)<(k:Int) - at_ by omega);obtain⟨z0,z1,z2,z3,y0,y1,y2,y3⟩:=bR HZ.ae;go_wp2_with fail;exact ZfB
theorem zhm.KbQ(h:p:=by rw[if_neg Taa] at he;subst he;exact Zc8):p:=h
theorem zhn.KbQ(h:p:=by rw[if_pos rfl] at he;subst he;go_wp2_with (go_at_call 174;refine(ei s[k] _).mono ?_;rintro e w' ⟨rfl,rfl⟩;rw[HLB.ae]);exact ZdG):p:=h
theorem zho.KbQ(h:p:=by
 rw[if_pos rfl] at he;subst he;go_wp2_with (go_at_call 174;refine(ei s[k] _).mono ?_;rintro e w' ⟨rfl,rfl⟩;rw[HLB.ae]);refine bodyPost_ret (v:=.tuple #[.agg #[ag 0,au,af 0,af 0],af 0,af 30]) Zb0 rfl ?_
 ·rw[HR.ae];exact Zcq):p:=h
theorem zfe.Ka2(h:p:=by
 cases Uy:wu ((s.data.toList.drop at_).takeWhile bE)
 ·have qp:=aa Uy;clear Uy;open zhm in exact ZeT
 ·have qp:=aa Uy;clear Uy;cases Eb:fN s[k]
  ·have HLB:=aa Eb;have HR:=aa (show R=.ok (⟨2,[],ly ((s.data.toList.drop at_).takeWhile bE)⟩,(s.data.toList.drop at_).dropWhile bE) by
    rw[rN.ae,qp.ae,Sj.ae,cI HB.ae]
    simp[Eb])
   clear Eb;open zhn in exact ZeT
  ·have HLB:=aa Eb;have HR:=aa (show R=.error 30 by
    rw[rN.ae,qp.ae,Sj.ae,cI HB.ae]
    simp[Eb])
   clear Eb;open zho in exact ZeT):p:=h
theorem zff.Ka2(h:p:=by
 cases Uy:wu ((s.data.toList.drop at_).takeWhile bE)
 ·have qp:=aa Uy;clear Uy;go_wp2_with fail;refine HN.ae.mono ?_;unfold jN;rw[HE.ae,qp.ae];rintro e w1 ⟨he,rfl⟩;rw[if_neg Taa] at he;subst he;exact Zc8
 ·have qp:=aa Uy;clear Uy;have HR:=aa (show R=.ok (⟨2,[],ly ((s.data.toList.drop at_).takeWhile bE)⟩,(s.data.toList.drop at_).dropWhile bE) by
   rw[rN.ae,qp.ae,Sj.ae,drop_eq_nil_of_le Tas]
   rfl)
  go_wp2_with fail;refine HN.ae.mono ?_;unfold jN;rw[HE.ae,qp.ae];rintro e w1 ⟨he,rfl⟩;rw[if_pos rfl] at he;subst he;go_wp2_with fail;exact ZdG):p:=h
theorem one_num (s:ByteArray)(at_:Nat)(w:World)(ha:at_ < s.size)(hdg:fN s[at_]=false)(hc:bE s[at_]=true)(hs:s.size<=4294967280):
  ar 132 #[.string s,af at_] w (Ab s at_ w (ie (s.data.toList.drop at_))):=by
 have hd:=cI (eX s at_ ha);have mL:ie (s.data.toList.drop at_)=if wu ((s.data.toList.drop at_).takeWhile bE)&& !(((s.data.toList.drop at_).dropWhile bE).head?.any fN)then .ok (⟨2,[],ly ((s.data.toList.drop at_).takeWhile bE)⟩,(s.data.toList.drop at_).dropWhile bE)else .error 30:=by rw[hd];simp only[ie,hdg,if_pos hc];rfl
 have hq:0 <((s.data.toList.drop at_).takeWhile bE).length:=by rw[hd,takeWhile_cons,if_pos hc];simp
 generalize ie (s.data.toList.drop at_)=R at*;have rN:=aa mL;have akP:=aa hq;have R7:=aa hc;have HL0:=aa hdg;have HLEN:=aa (show s.data.toList.length=s.size by simp);clear mL hd hc hdg hq;go_enter Tryz.func132,Tryz.ntmps132;go_wp2_with (first
  |(go_at_call 174;refine(ei s[at_] _).mono ?_;rintro e w' ⟨rfl,rfl⟩;rw[HL0.ae])
  |(go_at_call 175;refine(eM s[at_] _).mono ?_;rintro e w' ⟨rfl,rfl⟩;rw[R7.ae]))
 have HZ:=aa (aC.new w 172 #[ag 0,au,af 0,af 0]);have bb:=ah w (.cells #[ag 0,au,af 0,af 0] 172);generalize w.alloc (.cells #[ag 0,au,af 0,af 0] 172)=W at*;go_loop [8] (λ u=>∃k:Nat,at_<=k/\k<=s.size/\u=af k/\ij bE s.data.toList at_=ij bE s.data.toList k) (λ u=>s.size - (intOf u).toNat);case atStart=>exact⟨at_,Nat.le_refl _,by omega,rfl,rfl⟩
 case round=>
  obtain⟨k,FX,hk2,rfl,hf⟩:=hrel;have HF:=aa hf;clear hf;by_cases Ax:k < s.size
  ·have HB:=aa (eX s k Ax);cases hd:bE s[k]
   ·have HD:=aa hd;have mV:=aa (show ij bE s.data.toList at_=k by rw[HF.ae];exact Sb HB.ae hd);clear hd;open zfe in exact ZcI
   ·have HD:=aa hd;have mV:=aa (show ij bE s.data.toList at_=ij bE s.data.toList (k+1) by rw[HF.ae];exact Cb HB.ae hd);clear hd;go_wp2_with (go_at_call 175;refine(eM s[k] _).mono ?_;rintro e w' ⟨rfl,rfl⟩;rw[HD.ae]);exact Zeu
  ·have mV:=aa (show ij bE s.data.toList at_=k by rw[HF.ae];exact LB Tas);open zff in exact ZcI
theorem zq (s:ByteArray)(k:Nat)(hk:k < s.size):s.extract k (k+1)=⟨#[s[k]]⟩:=by
 have h:=pE s k (k+1)
 have h2:(s.data.toList.take (k+1)).drop k=[s[k]]:=by
  rw[drop_take,cI (eX s k hk)];have:k+1 - k=1:=by omega
  rw[this];rfl
 rw[h2] at h;apply Go.WideShapes.bytes_inj;rw[h]
theorem lz (s:ByteArray)(a b:Nat)(x y:Int)(hx:x=a)(hy:y=b)(hab:a<=b)(hb:b<=s.size)(w:World):
  (Instr.slice 9 (.string s) (some (af x)) (some (af y)) none).run Tryz.prog w=.ok (.string (s.extract a b)) w:=by subst hx hy;have:=run_slice_string (P:=Tryz.prog) (w:=w) 9 s .i64 .i64 a b Tryz.underlying9 WC WC WC;exact Zfa
theorem zg6.KbK(h:p:=by
 have HZ:=aa (aC.new w 172 #[ag 0,au,af 0,af 0]);have bb:=ah w (.cells #[ag 0,au,af 0,af 0] 172);generalize w.alloc (.cells #[ag 0,au,af 0,af 0] 172)=W at*;obtain⟨z0,z1,z2,z3,y0,y1,y2,y3⟩:=bR HZ.ae;clear t0;go_loop [8,11] (λ u x=>∃(k:Nat) (acc:List UInt8),k<=s.size/\acc.length<=k/\u=af k/\x=.string ⟨acc.toArray⟩/\more [] (fO (s.data.toList.drop (at_+1)))=more acc (fO (s.data.toList.drop k))) (λ u _=>s.size - (intOf u).toNat);case atStart=>exact⟨at_+1,[],ha,by simp,by go_num,rfl,rfl⟩
 case round=>
  obtain⟨k,acc,hk,aaO,rfl,rfl,hf⟩:=hrel;have HF:=aa hf;clear hf;by_cases Ax:k < s.size
  ·have HB:=aa (eX s k Ax);by_cases hq:s[k]=39
   ·have HQ:=aa hq;have t1:(((s[k].toNat:Nat):Int)==39)=true:=by rw[hq];rfl
    clear hq;by_cases FX:k+1 < s.size
    ·have eN:=aa (eX s (k+1) FX);have n2:=decide_eq_false (show¬((s.size:Int)<=(k:Int)+1) by omega);by_cases JY:s[k+1]=39
     ·have Uz:=aa JY;have t2:(((s[k+1].toNat:Nat):Int)==39)=true:=by rw[JY];rfl
      have t3:(((s[k+1].toNat:Nat):Int) != 39)=false:=by rw[JY];rfl
      have hx:=zq s (k+1) FX;have AP:=lz s (k+1) (k+1+1) ((k:Int)+1) ((k:Int)+1+1) WC WC WC WC W;rw[hx,JY] at AP;clear JY hx;go_wp2_with fail;go_round;case rel=>refine⟨k+2,acc++ [39],by omega,by simp;omega,by go_num,by rw[mm],?_⟩;rw[HF.ae,cI HB.ae,cI eN.ae,HQ.ae,Uz.ae,YT]
      case measure=>exact Za6
     ·have t2:(((s[k+1].toNat:Nat):Int)==39)=false:=by rw[beq_eq_false_iff_ne];intro h;exact JY (UInt8.toNat_inj.1 (by simpa using(by omega:s[k+1].toNat=39)))
      have t3:(((s[k+1].toNat:Nat):Int) != 39)=true:=by simpa [bne] using t2
      have afX:=aa (show(s.data.toList.drop (k+1)).head?≠some 39 by rw[cI eN.ae];simpa using JY);clear JY;exact ZcQ
    ·have n2:=decide_eq_true (show((s.size:Int)<=(k:Int)+1) by omega);have afX:=aa (show(s.data.toList.drop (k+1)).head?≠some 39 by rw[drop_eq_nil_of_le Tas];simp);exact ZcQ
   ·have HQ:=aa hq;have t1:(((s[k].toNat:Nat):Int)==39)=false:=by rw[beq_eq_false_iff_ne];intro h;exact hq (UInt8.toNat_inj.1 (by simpa using(by omega:s[k].toNat=39)))
    have AP:=lz s k (k+1) (k:Int) ((k:Int)+1) rfl WC WC WC W;rw[zq s k Ax] at AP;clear hq;go_wp2_with fail;go_round;case rel=>refine⟨k+1,acc++ [s[k]],by omega,by simp;omega,by go_num,by rw[mm],?_⟩;rw[HF.ae,cI HB.ae,Pm HQ.ae]
    case measure=>exact Za6
  ·have Zc:=aa (show s.data.toList.drop k=[] by rw[drop_eq_nil_of_le Tas]);go_wp2_with fail;refine bodyPost_ret (v:=.tuple #[.agg #[ag 0,au,af 0,af 0],af 0,af 30]) Zb0 rfl ?_
   ·rw[rN.ae,HF.ae,Zc.ae];exact Zcq):p:=h
theorem Zb (s:ByteArray)(at_:Nat)(w:World)(ha:at_ < s.size)(hc:fN s[at_]=false)(hdg:bE s[at_]=false)(hq:s[at_]=39)(hs:s.size<=4294967280):
  ar 132 #[.string s,af at_] w (Ab s at_ w (ie (s.data.toList.drop at_))):=by
 have hd:=cI (eX s at_ ha)
 have mL:ie (s.data.toList.drop at_)=match more [] (fO (s.data.toList.drop (at_+1)))with
   | some (t,rest)=> .ok (⟨3,t,0⟩,rest)
   | none=> .error 30:=by
  rw[YS,hd];simp only[ie,hc,hdg,if_pos hq];rfl
 generalize ie (s.data.toList.drop at_)=R at*;have t0:(((s[at_].toNat:Nat):Int)==39)=true:=by rw[hq];rfl
 open zg6 in exact ZeJ
end Go.Proofs.YtndgjggokjickaaGreatDoor.R
