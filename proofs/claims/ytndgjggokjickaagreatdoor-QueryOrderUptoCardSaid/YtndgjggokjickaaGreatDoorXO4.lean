/- Parts of the proof. -/
import Derived.Laws.CopyOwn
import Derived.Lib.ItoaLen
import Derived.Lib.AppendZeros
import Derived.Lib.ParseIntB
import Derived.Lib.Case
import Derived.Test.YtndgjggokjickaaGreatDoorXO3
namespace Go.Proofs.YtndgjggokjickaaGreatDoor
open List
variable{p:Prop}
set_option maxHeartbeats 90000000
set_option maxRecDepth 100000
set_option linter.unusedVariables false
set_option linter.unusedSimpArgs false
section
variable {α:Type} {c:α->α->Int}
theorem Good.afh (h:Good c) {x y z:α}(h1:c x y < 0)(h2:c y z<=0):c x z < 0:=by
 rcases Int.lt_or_le (c x z) 0 with h3 | h3
 ·exact h3
 ·have:=h.iz x z;have:=h.trans y z x h2 Tq;have:=h.iz x y;omega
def iB (c:α->α->Int)(k:α):List α->List α
 | []=> [k]
 | x::xs=>if c x k < 0 then x::iB c k xs else if c x k=0 then x::xs else k::x::xs
def tO (c:α->α->Int)(l:List α):List α:=l.foldl (λ ks k=>iB c k ks) []
theorem Lk (hz:∀x y,c x y=0->x=y)(k y:α):∀l,y∈iB c k l↔y=k\/y∈l
 | []=>by simp[iB]
 | x::xs=>by
   unfold iB;split
   ·rw[mem_cons,Lk hz k y xs,mem_cons];constructor
    ·rintro(h | h | h)
     ·exact .inr (.inl h)
     ·exact .inl h
     ·exact .inr (.inr h)
    ·rintro(h | h | h)
     ·exact .inr (.inl h)
     ·exact .inl h
     ·exact .inr (.inr h)
   ·split
    ·rename_i h;have:=hz _ _ h;subst this;simp
    ·simp
theorem Sv (hg:Good c)(k z:α):∀l:List α,c z k < 0->(∀y∈l,c z y < 0)->∀y∈iB c k l,c z y < 0
 | [],h,_,y,hy=>by simp[iB] at hy;rw[hy];exact h
 | x::xs,h,ha,y,hy=>by
   unfold iB at hy;split at hy
   ·rcases List.mem_cons.1 hy with rfl | hy
    ·exact ha _ (mem_cons_self ..)
    ·exact Sv hg k z xs h (λ y hy=>ha y (mem_cons_of_mem _ hy)) y hy
   ·split at hy
    ·exact ha y hy
    ·rcases List.mem_cons.1 hy with rfl | hy
     ·exact h
     ·exact ha y hy
theorem yN (hg:Good c)(k:α):∀l:List α,l.Pairwise (λ a b=>c a b < 0)->(iB c k l).Pairwise (λ a b=>c a b < 0)
 | [],_=>by simp[iB]
 | x::xs,h=>by
   rw[pairwise_cons] at h;unfold iB;split
   ·rename_i h1;rw[pairwise_cons];exact⟨Sv hg k x xs h1 h.1,yN hg k xs h.2⟩
   ·split
    ·rw[pairwise_cons];exact h
    ·rename_i h1 h2;have h3:c k x < 0:=by have:=hg.iz x k;omega
     rw[pairwise_cons,pairwise_cons];refine⟨λ y hy=>?_,h⟩;rcases List.mem_cons.1 hy with rfl | hy
     ·exact h3
     ·exact hg.afh h3 (by have:=h.1 y hy;omega)
theorem BJ (hg:Good c)(hz:∀x y,c x y=0->x=y):∀(l s:List α),s.Pairwise (λ a b=>c a b < 0)->(l.foldl (λ ks k=>iB c k ks) s).Pairwise (λ a b=>c a b < 0)/\∀y,y∈l.foldl (λ ks k=>iB c k ks) s↔y∈l\/y∈s
 | [],s,h=>⟨h,λ y=>by simp⟩
 | x::l,s,h=>by
   obtain⟨h1,h2⟩:=BJ hg hz l (iB c x s) (yN hg x s h);refine⟨h1,λ y=>?_⟩;rw[foldl_cons,h2 y,Lk hz,mem_cons];constructor
   ·rintro(h | h | h)
    ·exact .inl (.inr h)
    ·exact .inl (.inl h)
    ·exact .inr h
   ·rintro((h | h)| h)
    ·exact .inr (.inl h)
    ·exact .inl h
    ·exact .inr (.inr h)
theorem ko (hg:Good c)(hz:∀x y,c x y=0->x=y)(l:List α):(tO c l).Pairwise (λ a b=>c a b < 0)/\∀y,y∈tO c l↔y∈l:=by have:=BJ hg hz l [] .nil;exact⟨this.1,λ y=>by rw[tO,this.2 y];simp⟩
theorem BK (hg:Good c):∀(l m:List α),l.Pairwise (λ a b=>c a b < 0)->m.Pairwise (λ a b=>c a b < 0)->(∀y,y∈l↔y∈m)->l=m
 | [],[],_,_,_=>rfl
 | [],y::m,_,_,h=>by have:=(h y).2 (mem_cons_self ..);cases this
 | x::l,[],_,_,h=>by have:=(h x).1 (mem_cons_self ..);cases this
 | x::l,y::m,h1,h2,h=>by
   rw[pairwise_cons] at h1 h2;have hr:∀a:α,c a a=0:=λ a=>by have:=hg.iz a a;omega
   have e:x=y:=by
    rcases List.mem_cons.1 ((h x).1 (mem_cons_self ..))with e | e
    ·exact e
    ·rcases List.mem_cons.1 ((h y).2 (mem_cons_self ..))with e2 | e2
     ·exact e2.symm
     ·have a:=h2.1 x e;have b:=h1.1 y e2;have:=hg.iz x y;omega
   subst e;congr 1;refine BK hg l m h1.2 h2.2 λ z=>⟨λ hz=>?_,λ hz=>?_⟩
   ·rcases List.mem_cons.1 ((h z).1 (mem_cons_of_mem _ hz))with e | e
    ·subst e;have:=h1.1 z hz;rw[hr] at this;omega
    ·exact e
   ·rcases List.mem_cons.1 ((h z).2 (mem_cons_of_mem _ hz))with e | e
    ·subst e;have:=h2.1 z hz;rw[hr] at this;omega
    ·exact e
theorem OZ (hg:Good c)(hz:∀x y,c x y=0->x=y) {l m:List α}(h:∀y,y∈l↔y∈m):tO c l=tO c m:=
 BK hg _ _ (ko hg hz l).1 (ko hg hz m).1 λ y=>by rw[(ko hg hz l).2,(ko hg hz m).2,h]
def Pa (c:α->α->Int)(x:α):List α->List α
 | []=> [x]
 | y::ys=>if c x y<=0 then x::y::ys else y::Pa c x ys
def Ll (c:α->α->Int)(l:List α):List α:=l.foldr (Pa c) []
theorem xA (c:α->α->Int)(x:α):∀l:List α,(Pa c x l).Perm (x::l)
 | []=> .refl _
 | y::ys=>by
   unfold Pa;split
   ·exact .refl _
   ·exact((xA c x ys).cons y).trans (.swap x y ys)
theorem jI (c:α->α->Int):∀l:List α,(Ll c l).Perm l
 | []=> .refl _
 | x::l=>(xA c x _).trans ((jI c l).cons x)
theorem yO (hg:Good c)(x:α):∀l:List α,l.Pairwise (λ a b=>c a b<=0)->(Pa c x l).Pairwise (λ a b=>c a b<=0)
 | [],_=>by simp[Pa]
 | y::ys,h=>by
   have h':=h;rw[pairwise_cons] at h;unfold Pa;split
   ·rename_i h1;rw[pairwise_cons];refine⟨λ z hz=>?_,h'⟩;rcases List.mem_cons.1 hz with rfl | hz
    ·exact h1
    ·exact hg.trans _ _ _ h1 (h.1 z hz)
   ·rename_i h1;rw[pairwise_cons];refine⟨λ z hz=>?_,yO hg x ys h.2⟩;rcases List.mem_cons.1 ((xA c x ys).mem_iff.1 hz)with rfl | hz
    ·have:=hg.iz z y;omega
    ·exact h.1 z hz
theorem lu (hg:Good c):∀l:List α,(Ll c l).Pairwise (λ a b=>c a b<=0)
 | []=> .nil
 | x::l=>yO hg x _ (lu hg l)
theorem BL {β:Type}(hg:Good c)(f:α->β)(hf:∀x y,c x y=0->f x=f y):∀(l m:List α),l.Perm m->l.Pairwise (λ a b=>c a b<=0)->m.Pairwise (λ a b=>c a b<=0)->l.map f=m.map f:=by
 have hr:∀a:α,c a a=0:=λ a=>by have:=hg.iz a a;omega
 intro l
 induction l with
 | nil=>intro m h _ _;rw[h.nil_eq]
 | cons x l ih=>
   intro m h h1 h2;rw[pairwise_cons] at h1
   cases m with
   | nil=>exact absurd h.symm.nil_eq Vb
   | cons y m=>
     have Bd:=h2;rw[pairwise_cons] at h2
     have hxy:c x y=0:=by
      have a:c x y<=0:=by
       rcases List.mem_cons.1 (h.mem_iff.2 (mem_cons_self ..):y∈x::l)with e | e
       ·rw[e,hr];omega
       ·exact h1.1 y e
      have b:c y x<=0:=by
       rcases List.mem_cons.1 (h.mem_iff.1 (mem_cons_self ..):x∈y::m)with e | e
       ·rw[e,hr];omega
       ·exact h2.1 x e
      have:=hg.iz x y;omega
     rcases List.mem_cons.1 (h.mem_iff.1 (mem_cons_self ..):x∈y::m)with e | e
     ·subst e;rw[map_cons,map_cons,ih m (List.Perm.cons_inv h) h1.2 h2.2]
     · -- x stands within m:put y in its place
       obtain⟨m1,m2,rfl⟩:=append_of_mem e;have hp:l.Perm (y::(m1++m2)):=by refine List.Perm.cons_inv (h.trans ?_) (a:=x);exact(List.perm_middle.cons y).trans (.swap x y _)
       have Ih:∀z∈m1,c z x=0:=λ z hz=>by
        have a:=h2.1 z (List.mem_append.2 (.inl hz));have b:c z x<=0:=by have:=h2.2;rw[pairwise_append] at this;exact this.2.2 z hz x (mem_cons_self ..)
        have d:=hg.trans x y z Tq a;have:=hg.iz z x;omega
       have hs:(y::(m1++m2)).Pairwise (λ a b=>c a b<=0):=by refine Bd.sublist ?_;exact List.Sublist.cons_cons y ((List.Sublist.refl m1).append (sublist_cons_self x m2))
       rw[map_cons,ih _ hp h1.2 hs];have key:∀(m1:List α) (y:α),c y x=0->(∀z∈m1,c z x=0)->f x::(y::(m1++m2)).map f=(y::(m1++x::m2)).map f:=by
        intro m1;induction m1 with
        | nil=>intro y hy _;simp[hf y x hy]
        | cons z m1 ih2=>intro y hy hz;have:=ih2 z (hz z (mem_cons_self ..)) (λ w hw=>hz w (mem_cons_of_mem _ hw));rw[map_cons,hf y x hy];show f x::f x::((z::(m1++m2)).map f)=_;rw[this];simp[hf y x hy]
       exact key m1 y (by have:=hg.iz x y;omega) Ih
theorem Pb {β:Type}(hg:Good c)(f:α->β)(hf:∀x y,c x y=0->f x=f y) {l m:List α}(h:l.Perm m):(Ll c l).map f=(Ll c m).map f:=
 BL hg f hf _ _ ((jI c l).trans (h.trans (jI c m).symm)) (lu hg l) (lu hg m)
end
def nx (b e:Int):Int:=if e≠0/\(b=0\/e < b)then e else b
def dh (l:List Int):Int:=l.foldl nx 0
theorem UJ (b x y:Int):nx (nx b x) y=nx (nx b y) x:=by
 unfold nx;repeat' split
 all_goals omega
variable{l m:List Int}
theorem yP(h:l.Perm m):dh l=dh m:=h.foldl_eq' (λ x _ y _ b=>UJ b x y) 0
open Go.RowKit
def ny (u:Nat->Value)(M:List Nat)(σ:Nat->Option Value)(i:Nat)(_:World)(v:Value):Prop:=if i∈M then σ i=some v else v=u i
def jJ (σ:Nat->Option Value)(i:Nat)(v:Value):Nat->Option Value:=λ j=>if j=i then some v else σ j
theorem FI (σ:Nat->Option Value)(i:Nat)(v:Value):jJ σ i v i=some v:=by simp[jJ]
variable{j:Nat}
theorem acf(σ:Nat->Option Value) {i:Nat}(v:Value)(h:j≠i):jJ σ i v j=σ j:=by simp[jJ,h]
def afi (P:Program)(l:List Oper)(u:Nat->Value)(M:List Nat)(G:(Nat->Option Value)->World->Prop)(a0:Act)(i:Nat)(o:Oper):Prop:=
 ∀ρ w σ,oD ρ->G σ w->lQ l (ny u M σ) a0.eval ρ w o (tmpsOf o)->(∀e∈eV o,e∈M->(σ e).isSome=true)->(i∈M->σ i=none)->o.guard=none/\
  if i∈M then xj P o ρ w λ v w'=>G (jJ σ i v) w' else(execOp ρ o).run P w=.ok (.value (u i)) w
def Pc (P:Program)(l:List Oper)(u:Nat->Value)(M:List Nat)(G:(Nat->Option Value)->World->Prop)(a0:Act):List Oper->Nat->Prop
 | [],_=>True
 | o::rest,i=>afi P l u M G a0 i o/\Pc P l u M G a0 rest (i+1)
variable{P:Program}{L:List Oper}{u:Nat->Value}{M:List Nat}{G:(Nat->Option Value)->World->Prop}{a0:Act}
theorem FJ:∀ {l:List Oper} {k:Nat},Pc P L u M G a0 l k->∀i o,l[i]?=some o->afi P L u M G a0 (k+i) o
 | [],_,_,i,o,h=>by simp at h
 | x::l,k,hs,0,o,h=>by simp at h;subst h;exact hs.1
 | x::l,k,hs,i+1,o,h=>by have:=FJ hs.2 i o Tah;rwa [show k+1+i=k+(i+1) by omega] at this
section
variable {P:Program} {l zs:List Oper} {Q:Exit->Act->World->Prop} {u:Nat->Value} {M:List Nat} {G:(Nat->Option Value)->World->Prop} {a0:Act} {w0:World} {V:Nat->World->Value->Prop}
theorem zb2.Kam(h:p:=by
 have hK:=xl (V:=V) (λ d=>a.eval (.tmp d)) l 0 a0 (λ i o d hi hd=>by
  rw[Nat.zero_add]
  have rW:i < l.length:=by
   rcases Nat.lt_or_ge i l.length with h' | h'
   ·exact h'
   ·rw[getElem?_eq_none h'] at hi;cases hi
  exact I.new i o d hi (hall i rW) hd) hf
 rw[<- ha] at hK;exact Zbm):p:=h
theorem FK {N:Nat}(aZ:dO l N l 0=true)(hz:eJ (l++zs) zs l.length=true) {listed:Array Bool} {a:Act} {w:World}(hf:bD V (λ a w=>wpList P (l++zs).toArray Q zs a w) l 0 a0 w)(I:Inv l V (λ _ _=>True) a0 w0 (l++zs).length listed a w)
  (h0:bz l.length listed=0):wpAny P .any (l++zs).toArray Q zs.length listed a w:=by
 open zb2 in exact ZaH
theorem zfa.Kbb(h:p:=by
 by_cases hjm:i∈M
 ·rw[if_pos hjm] at hstep;refine jz hstep ?_;intro v w' RU;have hne:∀Kx,Kx≠i->jJ σ i v Kx=σ Kx:=λ Kx hi=>acf σ v hi
  have I':Inv l (ny u M (jJ σ i v)) (λ _ _=>True) a0 w0 (l++zs).length listed a w:=I.imp (λ Kx w x h=>by
   unfold ny at*
   by_cases RS:Kx∈M
   ·rw[if_pos RS] at h ⊢
    rw[hne Kx (λ e=>by subst e;rw[hnone RS] at h;cases h)]
    exact h
   ·rw[if_neg RS] at h ⊢;exact h)
  refine ih _ _ _ (jJ σ i v) (I'.step aZ (λ _ _ _ _ h _=>h) (λ _ _ _ _ _=>trivial) vn zy AX eX trivial ?_) RU ?_ Zl
  ·unfold ny;rw[if_pos hjm];exact FI σ i v
  ·intro k hk;rw[eF _ _ _ Zk];by_cases hkj:k=i
   ·subst hkj;rw[FI];simp
   ·rw[if_neg hkj,hne k hkj];exact bU k hk
 ·rw[if_neg hjm] at hstep;refine jz (T:=λ v w'=>v=u i/\w'=w) (aq hstep ⟨rfl,rfl⟩) ?_;rintro v w' ⟨rfl,rfl⟩;refine ih _ _ _ σ (I.step aZ (λ _ _ _ _ h _=>h) (λ _ _ _ _ _=>trivial) vn zy AX eX trivial ?_) hg ?_ Zl
  ·unfold ny;rw[if_neg hjm]
  ·intro k hk;rw[eF _ _ _ Zk,if_neg (λ e:k=i=>hjm (by rw[<- e];exact hk))];exact bU k hk):p:=h
theorem zao.Kb(h:p:=by
 have hst:=FJ hs i oj vn;rw[Nat.zero_add] at hst;have mB:=Inv.reads aZ I vn AX eX (tmpsOf oj) (λ _ h=>h)
 have hnone:i∈M->σ i=none:=λ hjm=>by
  cases pR:σ i with
  | none=>rfl
  | some v=>have:=(bU i hjm).2 (by rw[pR];rfl);rw[AX] at this;cases this
 obtain⟨hgd,hstep⟩:=hst a.eval w σ (mG a) hg mB (λ e he hem=>(bU e hem).1 (eX e he)) hnone;open zfa in exact Zc9):p:=h
theorem qR {id:Nat} {ops:List Oper}(zs:List Oper)(l:List Oper)(jC:ops=l++zs)(u:Nat->Value)(M:List Nat)(G:(Nat->Option Value)->World->Prop)(nO:∀σ w,G σ w->G σ w.drew)(hG:G (λ _=>none) w0)
  (hm:P.follows .mixedOrders=true) (aZ:dO l a0.tmps.size l 0=true) (hz:eJ (l++zs) zs l.length=true) (Km:M.all (λ Kx=>decide (Kx < l.length))=true)
  (hs:Pc P l u M G a0 l 0) (hf:∀σ w,(∀Kx∈M,(σ Kx).isSome=true)->G σ w->bD (ny u M σ) (λ a w=>wpList P ops.toArray Q zs a w) l 0 a0 w):(Code.region id ops.toArray true).wp P Q a0 w0:=by
 subst jC
 have main:∀(fuel:Nat) (listed:Array Bool) (a:Act) (w:World) (σ:Nat->Option Value),Inv l (ny u M σ) (λ _ _=>True) a0 w0 (l++zs).length listed a w->G σ w->(∀Kx∈M,(listed.getD Kx false=true↔(σ Kx).isSome=true))->fuel=bz l.length listed+zs.length->wpAny P .any (l++zs).toArray Q fuel listed a w:=by
  intro fuel
  induction fuel with
  | zero=>
    intro listed a w σ I hg bU hfu;have h0:bz l.length listed=0:=by omega
    have hz0:zs.length=0:=by omega
    have hall:=dX h0;have:=FK aZ hz (hf σ w (λ Kx hi=>(bU Kx hi).1 (hall Kx (of_decide_eq_true (List.all_eq_true.1 Km Kx hi)))) hg) I h0;rwa [hz0] at this
  | succ fuel ih=>
    intro listed a w σ I hg bU hfu;by_cases h0:bz l.length listed=0
    ·have hall:=dX h0;have:=FK aZ hz (hf σ w (λ Kx hi=>(bU Kx hi).1 (hall Kx (of_decide_eq_true (List.all_eq_true.1 Km Kx hi)))) hg) I h0;exact Zfh
    ·open zao in exact Zae
 refine wp_region_any hm ?_;have:=main (l++zs).toArray.size (Array.replicate (l++zs).toArray.size false) a0 w0.drew (λ _=>none) ⟨trivial,rfl,rfl,λ _ _=>rfl,(λ Kx o d _ h=>by rw[bh] at h;cases h),(λ Kx o _ h=>by rw[bh] at h;cases h),by simp,λ Kx _=>bh _ _⟩ (nO _ _ hG) (λ Kx _=>by rw[bh];simp) (by
  have:bz l.length (Array.replicate (l++zs).toArray.size false)=l.length:=by
   unfold bz
   rw[List.filter_eq_self.2 (λ Kx _=>by rw[bh];rfl),length_range]
  rw[this];simp)
 exact this
end
open Go.ChangeShapes Go.WideShapes Go.ChangeAt
structure Cel where
 i:Nat
 T:TypeId
 c:Array Value
 s:Nat
 d:Array Value
section
variable {P:Program} {Q:Exit->Act->World->Prop} {a0:Act} {w0:World}
end
section
variable {P:Program} {l:List Oper} {u:Nat->Value} {X:List Cel} {CL:List Nat} {a0:Act} {B:Nat} {w0:World} {i:Nat} {o:Oper}
end
variable{q:Nat}{old:Array Value}
theorem ahl{w:World}  {T:TypeId} (h:aB w q T old)(cs:Array Value):aB (w.setRow q cs) q T cs:=setRow_heap w q old cs T (0,0) h
variable{w':World}{B:Nat}
theorem Zm{w:World} (h:Below B w w')(hq:B<=q)(cs:Array Value):Below B w (w'.setRow q cs):=below_setRow h hq cs
def zL (w:World):Prop:=Lib.TabIs Tryz.prog w "internal/strconv.uint64pow10" .u64 Lib.pow10Tab
theorem zL.later{w:World}(h:zL w)(hb:aj w w'):zL w':=by
 unfold zL Lib.TabIs World.var? at*
 cases hg:Tryz.prog.globalNamed "internal/strconv.uint64pow10" with
 | none=>rw[hg] at h;simp at h
 | some g=>
   rw[hg] at h;simp only[Option.bind_some] at h ⊢
   have:g < w.heap.size:=by
    rcases Nat.lt_or_ge g w.heap.size with hlt | vr
    ·exact hlt
    ·rw[Array.getElem?_eq_none vr] at h;simp at h
   rw[hb.block g this];exact h
theorem mR (w:World):∀k,aj w (w.drewN k)
 | 0=>Below.refl _ _
 | k+1=>(mR w k).drew
theorem Pf (w:World)(k:Nat)(os:Array Obj):aj w («Sort».grow (w.drewN k) os):=by
 have h:=mR w k;refine⟨h.os,h.tape,h.output,?_,λ i hi=>?_⟩
 ·have:=h.size;simp[«Sort».grow]
 ·rw[<- h.block i hi];have:=h.size;simp only[«Sort».grow];rw[Array.getElem?_append_left Tq]
theorem xB (a b:Int)(w:World):ar 97 #[ag a,ag b] w λ e w'=>e=.returned (.bool (bZ a b))/\aj w w':=by
 have hb:=Below.refl w.heap.size w;unfold bZ;by_cases h1:a=0
 ·subst h1;go_enter Tryz.func97,Tryz.ntmps97;exact Zdm
 have t1:(a==0)=false:=by simp[h1]
 have t1':decide (a=0)=false:=by simp[h1]
 have T1:=aa t1;by_cases h2:b=0
 ·subst h2;clear h1;go_enter Tryz.func97,Tryz.ntmps97;go_wp2_with fail;go_ret;exact⟨by rw[T1.ae];rfl,hb⟩
 have t2:(b==0)=false:=by simp[h2]
 have t2':decide (b=0)=false:=by simp[h2]
 have T2:=aa t2;clear h1 h2;go_enter Tryz.func97,Tryz.ntmps97;go_wp2_with fail;go_ret;exact⟨by rw[T1.ae,T2.ae];simp,hb⟩
def nA (r:Int×Int):Int:=if r.2=0/\bZ r.1 1=false then 40 else r.2
variable{t:Int}
theorem FL:nA (t,0)=if bZ t 1=false then 40 else 0:=by
 unfold nA;by_cases h:bZ t 1=false
 ·rw[if_pos h,if_pos ⟨rfl,h⟩]
 ·rw[if_neg h,if_neg (λ h2=>h h2.2)]
variable{e:Int}
theorem BM(h:e≠0):nA (t,e)=e:=if_neg (λ h2=>h h2.1)
theorem uf (t e:Int)(w:World):ar 58 #[ag t,af e] w λ e_ w'=>e_=.returned (af (nA (t,e)))/\aj w w':=by
 obtain⟨r,hr⟩:∃r,r=nA (t,e):=⟨_,rfl⟩;rw[<- hr];by_cases h1:e=0
 ·subst h1;rw[FL] at hr;have hg:=xB t 1;cases hv:bZ t 1
  ·rw[hv] at hg hr;have hr2:r=40:=hr;exact ZdC
  ·rw[hv] at hg hr;have hr2:r=0:=hr;exact ZdC
 ·rw[BM h1] at hr;subst hr;have t1:(r==0)=false:=by simp[h1]
  have t1':decide (r=0)=false:=by simp[h1]
  have hb:=Below.refl w.heap.size w;clear h1;go_enter Tryz.func58,Tryz.ntmps58;exact Zdm
def je (k:Int):ByteArray:=⟨#[35]⟩++⟨(Lib.itoa k).toArray⟩
def Lm (k:Int):Ex:=⟨2,⟨0,0,⟨#[]⟩⟩,je k,0,none,0,0⟩
theorem zbl.Kaf(h:p:=by exact bodyPost_ret (v:=.agg #[ag 2,ag 0,af 0,au,.string (({ data:= #[35] }:ByteArray)++ { data:=(Lib.itoa k).toArray }),af 0,az]) (by simp[results,Tryz.results60,go_sem,z0,z1,x2,x3,x4,x5,x6];done) rfl ⟨rfl,hb3⟩):p:=h
theorem zfV.Kbu(h:p:=by
 rw[<- hg] at HX ⊢;have wj:=aa hg;clear hg;go_wp2_with fail;refine(Tryz.strconv_Itoa k HK.ae.1 HK.ae.2 W1 HE.ae).mono ?_;rintro e w1 ⟨rfl,kk,os,rfl⟩;have b1:=Pf W1 kk os;generalize «Sort».grow (W1.drewN kk) os=Kx at*;have H2:=aa (HX.later b1);have HB:=aa (ai.then bb b1);have hgb:w.heap.size<=g:=by rw[wj.ae];exact Nat.le_refl _
 have yQ:=aa hgb;have EXI:(Tryz.prog.info? 46).map (·.size)=some 7:=by kernel_rfl
 have HEX:=aa EXI;clear HX bb b1 hgb EXI;go_wp2_with (refine wpList_store_row rfl 46 (.tmp 2) (.tmp 6) rfl g #[ag 2,ag 0,af 0,au,.string (({ data:= #[35] }:ByteArray)++ { data:=(Lib.itoa k).toArray }),af 0,az] rfl rfl 46 dm H2.ae HEX.ae rfl T8 ?_);rotate_left
 ·simp only[Act.put];have k1:=ahl H2.ae #[ag 2,ag 0,af 0,au,.string (({ data:= #[35] }:ByteArray)++ { data:=(Lib.itoa k).toArray }),af 0,az];have hb3:=Zm HB.ae yQ.ae #[ag 2,ag 0,af 0,au,.string (({ data:= #[35] }:ByteArray)++ { data:=(Lib.itoa k).toArray }),af 0,az];generalize World.setRow _ _ _=W2 at*;open zbl in exact Zay
 ·exfalso;have:=Lib.itoa_length_le k HK.ae.1 HK.ae.2;omega):p:=h
theorem oX (k:Int)(h0: -9223372036854775808<=k)(h1:k<=9223372036854775807)(w:World)(hE:zL w):ar 60 #[af k] w λ e w'=>e=.returned (mz (Lm k))/\aj w w':=by have bb:=ah w (.cells dm 46);have HX:=aB.new w 46 dm;have HE:=aa (hE.later bb);have HK:=aa (And.intro h0 h1);clear hE h0 h1;go_enter Tryz.func60,Tryz.ntmps60;open zfV in exact Zd7
mutual
def Tr.depth:Tr->Int
 | .mk op v name width args=>RowKit.wrap64 (Tr.iC args+1)
def Tr.iC:List Tr->Int
 | []=>0
 | t::ts=>max t.depth (Tr.iC ts)
end
def ahm (f:FuncId)(w:World)(y:Ex)(b:Int):Prop:=∀W,aj w W->ar f #[.agg (ay y)] W λ e w'=>e=.returned (af b)/\aj W w'
def zM:List Int->Int
 | []=>0
 | a::l=>max a (zM l)
theorem xC:∀(l:List Int) (a:Int),zM (l++ [a])=max (zM l) a
 | [],a=>by simp only[nil_append,zM];omega
 | b::l,a=>by simp only[cons_append,zM,xC l a];omega
theorem yR:∀ts:List Tr,Tr.iC ts=zM (ts.map Tr.depth)
 | []=>by simp[Tr.iC,zM]
 | t::ts=>by simp[Tr.iC,zM,yR ts]
theorem zcW.Kax(h:p:=by
 generalize hm:zM ((args.take k).map (·.2))=m;have HM:=aa hm;clear hm;by_cases hmd:m < v
 ·exact Zcc
 ·exact Zcc):p:=h
theorem zgv.KbH(h:p:=by
 clear x6;go_loopw [3,9] (λ m iv wr=>∃k:Nat,k<=args.length/\iv=af k/\m=af (zM ((args.take k).map (·.2)))/\aj W wr) (λ _ iv _=>args.length - (intOf iv).toNat);case atStart=>exact Zgc
 case round=>
  obtain⟨k,hi,rfl,rfl,hW⟩:=hrel;have x6:=(HX.later hW).cell 6;simp only[Uaa] at x6;by_cases hlt:k < args.length
  ·obtain⟨b,off,rfl,kG,hex⟩:=(HA.ae.below (ai.then HB.ae hW)).at_ (show k <(args.map (·.1)).length by simpa using hlt);have js:(args.map (·.1))[k]' Tak=args[k].1:=by simp
   open zcW in exact Zbe
  ·obtain rfl:k=args.length:=by omega
   have lT:args.take args.length=args:=take_length;rw[lT];generalize hmx:zM (args.map (·.2))=m;have HMX:=aa hmx;clear hmx;exact Zg6):p:=h
theorem Pg (JX:Int)(Kx:Val)(kY:ByteArray)(gP:Int)(A:Option Addr)(c:Nat)(args:List (Ex×Int))(w:World)(hl:args.length<=1599289640356)(hA:RE w w.heap.size A (args.map (·.1)))(hE:∀a∈args,ahm 57 w a.1 a.2):ar 57 #[.agg #[ag JX,ag Kx.k,af Kx.n,.string Kx.s,.string kY,af gP,.slice A args.length c]] w λ e w'=>e=.returned (af (wrap64 (zM (args.map (·.2))+1)))/\aj w w':=by have HA:=aa hA;have HE:=aa hE;clear hA hE;have HX:=aB.new w 46 #[ag JX,ag Kx.k,af Kx.n,.string Kx.s,.string kY,af gP,.slice A args.length c];have hb0:=ah w (.cells #[ag JX,ag Kx.k,af Kx.n,.string Kx.s,.string kY,af gP,.slice A args.length c] 46);go_enter Tryz.func57,Tryz.ntmps57;go_upto_region 1 with fail;generalize w.alloc _=W at*;have HB:=aa hb0;clear hb0;open zgv in exact Zeu
theorem Tr.Zn (t:Tr)(y:Ex)(w:World)(aZ:t.ok)(hat:t.at_ w (Old w) y):∀W,aj w W->ar 57 #[mz y] W λ e w'=>e=.returned (af t.depth)/\aj W w':=by refine Tr.tell Tr.depth (λ _=>True) (λ W y r=>ar 57 #[mz y] W λ e w'=>e=.returned (af r)/\aj W w') (λ _ _ _ _ _ _ _ _=>trivial) ?_ t y w aZ trivial hat;intro op v name width ts A c args w aZ _ hlen hm hA _ hE;have k:=Pg op v name width A c args w (by unfold Tr.ok at aZ;rw[hlen];exact aZ.2.1) hA hE;unfold Tr.depth;rw[yR,<- hm];exact k
def t5V (y:Ex)(gp:Nat)(cV:Value)(t e:Int):Nat->World->Value->Prop
 | 0,_,v=>v=.agg (ay y)
 | 1,_,v=>v=aw gp
 | 2,_,v=>v=aw gp
 | 3,_,v=>v=ba gp 8
 | 4,_,v=>v=cV
 | 5,_,v=>v=.tuple #[ag t,af e]
 | 6,_,v=>v=.tuple #[ag t,af e]
 | 7,_,v=>v=ag t
 | 8,_,v=>v=af e
 | 9,_,v=>v=ag t
 | 10,_,v=>v=af e
 | _,_,_=>False
theorem xD (y:Ex)(gp:Nat)(cV:Value)(t e:Int):∀i w w' v,t5V y gp cV t e i w v->ai w w'->t5V y gp cV t e i w' v:=by exact Zds
theorem zhy.Kb4(h:p:=by
 replace q5: .tuple #[ag bt,af er]=a5:=Eq.symm q5;subst q5;replace q6: .tuple #[ag bt,af er]=a6:=Eq.symm q6;subst q6;replace q7: ag bt=a7:=Eq.symm q7;subst q7;replace q8: af er=a8:=Eq.symm q8;subst q8;replace q9: ag bt=a9:=Eq.symm q9;subst q9;replace UM: af er=FM:=Eq.symm UM;subst UM;simp only[bD,Act.put,Uac];have eB:=ai.then hB (ai.then hb (ai.then ME hL));have t1:(er != 0)=true:=by have:=Ox.ae;simpa using this
 have t2:decide (er=0)=false:=by have:=Ox.ae;simpa using this
 clear xd k1 NS QD ME hL hb hB;go_wp2_with fail;exact bodyPost_ret (v:=.tuple #[ag 0,af er]) Tal rfl ⟨rfl,eB⟩):p:=h
theorem zfS.Kbt(h:p:=by
 refine bB 11 (t5V y gp cV bt er) (xD _ _ _ _ _) T8 T8 T8 ?_ ?_
 ·exact ZaW
 open zhy in exact ZfA):p:=h
theorem zeX.Ka6(h:p:=by clear Ib;generalize bad=y at*;unfold ck at hex;open zfS in exact Zd6):p:=h
theorem zdi.KaB(h:p:=by
 go_loopw [6,15] (λ kv i wr=>∃k:Nat,k<=args.length/\i=af k/\aH dQ 5 1 wr W1.heap.size kv ((args.take k).map (·.2))/\aj W1 wr) (λ _ i _=>args.length - (intOf i).toNat);case atStart=>exact ZcI
 case round=>
  obtain⟨k,hk,rfl,hp,hb⟩:=hrel;have HP:=aa hp;clear hp;rcases Nat.lt_or_ge k args.length with hlt | vr
  ·have zE:k < n:=by have:=HN.ae;omega
   obtain⟨b,off,rfl,kG,hex⟩:=(HA.ae.below hb).at_ (show k <(args.map (·.1)++bad::post).length by simp;omega);have js:(args.map (·.1)++bad::post)[k]' Va=args[k].1:=by rw[getElem_append_left Tak];simp
   exact Zav
  ·open zeX in exact ZcS):p:=h
theorem UK (gp:Nat)(cV:Value)(op:Int)(xv:Val)(name:ByteArray)(width:Int)(A:Option Addr)(n c:Nat)(args:List (Ex×Int))(bad:Ex)(bt er:Int)(post:List Ex)(w:World)(sB:gp < w.heap.size)(Zo:w.cell? ⟨gp,8,none⟩=some cV)(hn:args.length+1+post.length=n)(hl:n<=1599289640356)(hA:RE w w.heap.size A (args.map (·.1)++bad::post))(hE:∀a∈args,oM w cV a.1 a.2 0)(jZ:oM w cV bad bt er)(her:er≠0):
  ar 153 #[aw gp,.agg #[ag op,ag xv.k,af xv.n,.string xv.s,.string name,af width,.slice A n c]] w λ en w'=>en=.returned (.tuple #[ag 0,af er])/\aj w w':=by have HN:=aa hn;have Ib:=aa jZ;have Ox:=aa her;clear hn jZ her;open zdi in exact Zbl
def RK (w:World)(B:Nat)(A:Option Addr)(l:List Int):Prop:=l=[]\/∃g,A=some ⟨g,0,none⟩/\g < B/\∀(i:Nat) x,l[i]?=some x->w.cell? ⟨g,i,none⟩=some (ag x)
theorem Zs{w:World} {A:Option Addr} (h:l=[]\/∃g,A=some ⟨g,0,none⟩/\g < w.heap.size/\∀i x j u,l[i]?=some x->j < 1->(dQ x)[j]?=some u->w.cell? ⟨g,i*1+j,none⟩=some u):RK w w.heap.size A l:=by
 rcases h with h |⟨g,h1,h2,h3⟩
 ·exact .inl h
 ·exact .inr ⟨g,h1,h2,λ i x hx=>by have:=h3 i x 0 _ hx Tq rfl;simpa using this⟩
theorem RK.at_{w:World}  {A:Option Addr} (h:RK w B A l) {k:Nat}(hk:k < l.length):∃g,A=some ⟨g,0,none⟩/\g < B/\w.cell? ⟨g,k,none⟩=some (ag l[k]):=by
 rcases h with h |⟨g,h1,h2,h3⟩
 ·subst h;simp at hk
 ·exact⟨g,h1,h2,h3 k _ (getElem?_eq_getElem hk)⟩
def jK (op:Int)(ks:List Int):Int×Int:=
 if (ks.length:Int)≠iA op then(0,21)
 else if (op=23\/op=26)/\bZ (ks.getD 0 0) 2=false then(0,40)
 else if ks.length=2/\bZ (ks.getD 1 0) 2=false then(0,40)
 else if ks.length=0\/op=23\/op=26\/op=22 then(2,0)
 else(ks.getD 0 0,0)
theorem Ln {op:Int}:iA op=0\/iA op=1\/iA op=2:=by
 unfold iA Im;repeat' split
 all_goals simp
theorem Lp{op:Int}(h:op=23\/op=26):iA op=1:=by
 rcases h with rfl | rfl <;> rfl
theorem Ph:iA 22=1:=rfl
theorem zhW.Kcf(h:p:=by clear gX;exact ZeP):p:=h
theorem zhX.Kcf(h:p:=by have c0':=(b3.cell (p:=⟨g0,0,none⟩) hg0).trans HC0.ae;clear gX;go_wp2_with fail;exact bodyPost_ret (v:=.tuple #[ag k0,af 0]) Tal rfl ⟨rfl,ai.then fG.ae b3⟩):p:=h
theorem zdj.KaB(h:p:=by
 go_loopw [6,15] (λ kv i wr=>∃k:Nat,k<=args.length/\i=af k/\aH dQ 5 1 wr W1.heap.size kv ((args.take k).map (·.2))/\aj W1 wr) (λ _ i _=>args.length - (intOf i).toNat);case atStart=>exact ZcI
 case round=>
  obtain⟨k,hk,rfl,hp,hb⟩:=hrel;have HP:=aa hp;clear hp;rcases Nat.lt_or_ge k args.length with hlt | vr
  ·have zE:k < n:=by have:=HN.ae;omega
   obtain⟨b,off,rfl,kG,hex⟩:=(HA.ae.below hb).at_ (show k <(args.map (·.1)).length by simpa using hlt);have js:(args.map (·.1))[k]' Tak=args[k].1:=by simp
   exact Zav
  ·have lT:args.take k=args:=take_of_length_le vr;have zE:¬k < n:=by have:=HN.ae;omega
   rw[lT] at HP;obtain⟨A9,c9,hu9,hKC⟩:=eh (f:=dQ) (size:=1) (λ _=>rfl) HP.ae;have Ak:(args.map (·.2)).length=n:=by rw[length_map];exact HN.ae
   rw[Ak] at hu9;have HRK:=aa (Zs hKC);subst hu9;have bA:=HX.later hb;have eB:=ai.then hB hb;have fG:=aa eB;generalize pP:args.map (·.2)=ks at*;have XE:=aa Ak;clear hKC hB HX pP Ak eB HP Zq BN HA HE lT vr;have gX:=bA.cell 0;simp only[Uaa] at gX;go_upto_region 10 with fail
   obtain⟨sb,hsb⟩:∃sb:Bool,(sb=true->op=23\/op=26)/\(sb=false->op≠23/\op≠26):=by
    by_cases h:op=23\/op=26
    ·exact Zgy
    ·exact⟨false,λ h=> Taa,λ _=>⟨λ h2=>h (.inl h2),λ h2=>h (.inr h2)⟩⟩
   have sZ:=aa hsb;clear hsb;go_cut [11] (λ sv wx=>sv=.bool sb/\wx=wr)
   case first=>
    cases sb
    ·obtain⟨h1,h2⟩:=sZ.ae.2 rfl;have s1:(op==23)=false:=by simp[h1]
     have s2:(op==26)=false:=by simp[h2]
     have s3:decide (op=23)=false:=by simp[h1]
     have s4:decide (op=26)=false:=by simp[h2]
     clear h1 h2;go_wp2_with fail;go_meet;exact Zft
    ·rcases sZ.ae.1 rfl with h1 | h1
     ·have s1:(op==23)=true:=by simp[h1]
      have s3:decide (op=23)=true:=by simp[h1]
      clear h1;go_wp2_with fail;go_meet;exact Zft
     ·have s1:(op==23)=false:=by simp[h1]
      have s2:(op==26)=true:=by simp[h1]
      have s3:decide (op=23)=false:=by simp[h1]
      have s4:decide (op=26)=true:=by simp[h1]
      clear h1;go_wp2_with fail;go_meet;exact Zft
   case rest=>
   obtain⟨rfl,rfl⟩:=hcut;have UO:=Zb op;clear gX hb zE hk;by_cases Uk:(n:Int)=iA op
   case neg=>
    have hr:rt=(0,21):=by rw[Lr.ae];unfold jK;rw[XE.ae];exact if_pos Uk
    subst hr;obtain⟨ao,hao⟩:∃ao,ao=iA op:=⟨_,rfl⟩;rw[<- hao] at UO Uk;have t1:((n:Int) != ao)=true:=by simp[Uk]
    have t2:decide ((n:Int)=ao)=false:=by simp[Uk]
    have t3:((n:Int)==ao)=false:=by simp[Uk]
    have IB:=aa UO;have gX:=bA.cell 0;simp only[Uaa] at gX;clear UO Uk hao;go_wp2_with fail;refine(IB.ae _).mono ?_;rintro e w2 ⟨rfl,b3⟩;go_wp2_with fail;exact bodyPost_ret (v:=.tuple #[ag 0,af 21]) Tal rfl ⟨rfl,ai.then fG.ae b3⟩
   have UQ:=XE.ae;have HNA:=aa Uk;rw[<- Uk] at UO;have ug:n=0\/n=1\/n=2:=by rcases @Ln op with h | h | h <;> omega
   have IB:=aa UO;clear UO Uk;have gX:=bA.cell 0;simp only[Uaa] at gX;rcases ug with rfl | rfl | rfl
   ·have pP:ks=[]:=eq_nil_of_length_eq_zero UQ;subst pP;clear UQ;have hsb:sb=false:=by exact Zhg
    subst hsb;have hr:rt=(2,0):=by rw[Lr.ae];unfold jK;rw[if_neg (λ h=>h HNA.ae),if_neg (λ h=>by rcases sZ.ae.2 rfl with ⟨a,b⟩;rcases h.1 with c | c;exact a c;exact b c),if_neg (λ h=>by cases h.1),if_pos (.inl rfl)]
    subst hr;go_wp2_with fail;refine(IB.ae _).mono ?_;rintro e w2 ⟨rfl,b3⟩;exact ZeP
   ·obtain⟨k0,rfl⟩:∃k0,ks=[k0]:=by
     match ks,UQ with
     | [k0],_=>exact⟨k0,rfl⟩
    clear UQ;obtain⟨g0,rfl,hg0,hc0⟩:=HRK.ae.at_ (show 0 < [k0].length by simp);have hc0:wc.cell? ⟨g0,0,none⟩=some (ag k0):=hc0;have HC0:=aa hc0;clear hc0;cases sb
    ·by_cases UR:op=22
     ·have hr:rt=(2,0):=by rw[Lr.ae];unfold jK;rw[if_neg (λ h=>h HNA.ae),if_neg (λ h=>by rcases sZ.ae.2 rfl with ⟨a,b⟩;rcases h.1 with c | c;exact a c;exact b c),if_neg (λ h=>by cases h.1),if_pos (.inr (.inr (.inr UR)))]
      subst hr;have s1:(op==22)=true:=by simp[UR]
      have s2:decide (op=22)=true:=by simp[UR]
      open zhW in exact Zgo
     ·have hr:rt=(k0,0):=by rw[Lr.ae];unfold jK;rw[if_neg (λ h=>h HNA.ae),if_neg (λ h=>by rcases sZ.ae.2 rfl with ⟨a,b⟩;rcases h.1 with c | c;exact a c;exact b c),if_neg (λ h=>by cases h.1),if_neg (λ h=>by rcases sZ.ae.2 rfl with ⟨a,b⟩;rcases h with c | c | c | c;cases c;exact a c;exact b c;exact UR c)];rfl
      subst hr;have s1:(op==22)=false:=by simp[UR]
      have s2:decide (op=22)=false:=by simp[UR]
      open zhX in exact Zgo
    ·have hgo:=xB k0 2;have acg:=sZ.ae.1 rfl;cases hv:bZ k0 2
     ·have hr:rt=(0,40):=by rw[Lr.ae];unfold jK;rw[if_neg (λ h=>h HNA.ae),if_pos ⟨acg,hv⟩]
      subst hr;rw[hv] at hgo;have XF:=aa hgo;clear hgo hv acg;go_wp2_with fail;refine(IB.ae _).mono ?_;rintro e w2 ⟨rfl,b3⟩;have c0':=(b3.cell (p:=⟨g0,0,none⟩) hg0).trans HC0.ae;exact Zc3
     ·have hr:rt=(2,0):=by rw[Lr.ae];unfold jK;rw[if_neg (λ h=>h HNA.ae),if_neg (λ h=>by have:=h.2;rw[show [k0].getD 0 0=k0 from rfl,hv] at this;cases this),if_neg (λ h=>by cases h.1),if_pos (by rcases acg with h | h;exact .inr (.inl h);exact .inr (.inr (.inl h)))]
      subst hr;rw[hv] at hgo;have XF:=aa hgo;clear hgo hv acg;go_wp2_with fail;refine(IB.ae _).mono ?_;rintro e w2 ⟨rfl,b3⟩;have c0':=(b3.cell (p:=⟨g0,0,none⟩) hg0).trans HC0.ae;clear gX;go_wp2_with fail;refine(XF.ae _).mono ?_;rintro e Kx ⟨rfl,b2⟩;go_wp2_with fail;exact bodyPost_ret (v:=.tuple #[ag 2,af 0]) Tal rfl ⟨rfl,ai.then (ai.then fG.ae b3) b2⟩
   ·obtain⟨k0,KK,rfl⟩:∃k0 KK,ks=[k0,KK]:=by
     match ks,UQ with
     | [k0,KK],_=>exact⟨k0,KK,rfl⟩
    clear UQ;have hsb:sb=false:=by exact Zhg
    subst hsb;have UR:op≠22:=λ h=>by have h1:=HNA.ae;rw[h,Ph] at h1;omega
    obtain⟨g0,rfl,hg0,hc0⟩:=HRK.ae.at_ (show 0 < [k0,KK].length by simp);obtain⟨g1,hg1,_,hc1⟩:=HRK.ae.at_ (show 1 < [k0,KK].length by simp);injection hg1 with hg1;injection hg1 with hg1 _ _;subst hg1;have hc0:wc.cell? ⟨g0,0,none⟩=some (ag k0):=hc0;have hc1:wc.cell? ⟨g0,1,none⟩=some (ag KK):=hc1;have HC0:=aa hc0;have NJ:=aa hc1;have s1:(op==22)=false:=by simp[UR]
    have s2:decide (op=22)=false:=by simp[UR]
    have H22:=aa UR;clear hc0 hc1 UR;have hgo:=xB KK 2;cases hv:bZ KK 2
    ·have hr:rt=(0,40):=by rw[Lr.ae];unfold jK;rw[if_neg (λ h=>h HNA.ae),if_neg (λ h=>by rcases sZ.ae.2 rfl with ⟨a,b⟩;rcases h.1 with c | c;exact a c;exact b c),if_pos ⟨rfl,hv⟩]
     subst hr;rw[hv] at hgo;have XF:=aa hgo;clear hgo hv;go_wp2_with fail;refine(IB.ae _).mono ?_;rintro e w2 ⟨rfl,b3⟩;have c1':=(b3.cell (p:=⟨g0,1,none⟩) hg0).trans NJ.ae;exact Zc3
    ·have hr:rt=(k0,0):=by rw[Lr.ae];unfold jK;rw[if_neg (λ h=>h HNA.ae),if_neg (λ h=>by rcases sZ.ae.2 rfl with ⟨a,b⟩;rcases h.1 with c | c;exact a c;exact b c),if_neg (λ h=>by have:=h.2;rw[show [k0,KK].getD 1 0=KK from rfl,hv] at this;cases this),if_neg (λ h=>by rcases sZ.ae.2 rfl with ⟨a,b⟩;rcases h with c | c | c | c;cases c;exact a c;exact b c;exact H22.ae c)];rfl
     subst hr;rw[hv] at hgo;have XF:=aa hgo;clear hgo hv;go_wp2_with fail;refine(IB.ae _).mono ?_;rintro e w2 ⟨rfl,b3⟩;have c1':=(b3.cell (p:=⟨g0,1,none⟩) hg0).trans NJ.ae;clear gX;go_wp2_with fail;refine(XF.ae _).mono ?_;rintro e Kx ⟨rfl,b2⟩;have c10:=((bA.later b3).later b2).cell 0;simp only[Uaa] at c10;have c0':=(b2.cell (p:=⟨g0,0,none⟩) (Nat.lt_of_lt_of_le hg0 b3.size)).trans ((b3.cell (p:=⟨g0,0,none⟩) hg0).trans HC0.ae);clear c1';go_wp2_with fail;exact bodyPost_ret (v:=.tuple #[ag k0,af 0]) Tal rfl ⟨rfl,ai.then (ai.then fG.ae b3) b2⟩):p:=h
theorem UN (gp:Nat)(cV:Value)(op:Int)(xv:Val)(name:ByteArray)(width:Int)(A:Option Addr)(n c:Nat)(args:List (Ex×Int))(w:World)(sB:gp < w.heap.size)(Zo:w.cell? ⟨gp,8,none⟩=some cV)(hn:args.length=n)(hl:n<=1599289640356)(hA:RE w w.heap.size A (args.map (·.1)))(hE:∀a∈args,oM w cV a.1 a.2 0):
  ar 153 #[aw gp,.agg #[ag op,ag xv.k,af xv.n,.string xv.s,.string name,af width,.slice A n c]] w λ en w'=>en=.returned (.tuple #[ag (jK op (args.map (·.2))).1,af (jK op (args.map (·.2))).2])/\aj w w':=by have HN:=aa hn;clear hn;obtain⟨rt,hrt⟩:∃rt,rt=jK op (args.map (·.2)):=⟨_,rfl⟩;rw[<- hrt];have Lr:=aa hrt;clear hrt;open zdj in exact Zbl
def fU (cols:List aX)(op:Int)(args:List Tr):Int×Int:=
 if gQ (Tr.types cols args)≠0 then(0,gQ (Tr.types cols args))else jK op ((Tr.types cols args).map (·.1))
variable{CA:Option Addr}{cc:Nat}
theorem Tr.Ls{cols:List aX}  (bU:cols.length<=140737488355328)(gp:Nat):∀(t:Tr) (y:Ex) (w:World),t.ok->t.at_ w (Old w) y->RC w w.heap.size CA cols->gp < w.heap.size->w.cell? ⟨gp,8,none⟩=some (.slice CA cols.length cc)->
  ar 153 #[aw gp,mz y] w λ e w'=>e=.returned (.tuple #[ag (fU cols t.op t.args).1,af (fU cols t.op t.args).2])/\aj w w'
 | .mk op v name width ts,y,w,aZ,hat,hC,sB,Zo=>by
   unfold Tr.at_ at hat;obtain⟨h1,h2,h3,h4,h5,ys,h6,h7⟩:=hat;unfold Tr.ok at aZ;obtain⟨l,fq,hl2,ub⟩:=Tr.Bq cols CA cc bU ts ys w aZ.2.2.2.2.2 h7 hC;obtain⟨JX,yv,kY,gP,yA,yn,yc⟩:=y;dsimp only at h1 h2 h3 h4 h5 h6;subst h1 h2 h3 h4 h5;have hlen:l.length=ts.length:=by
    have:(l.map (·.1)).length=ys.length:=by rw[fq]
    rw[length_map,h7.length] at this;exact this
   have hA:RE w w.heap.size yA (l.map (·.1)):=by rw[fq];exact h6.old
   have hn:=aZ.2.1;show ar 153 #[aw gp,.agg #[ag JX,ag yv.k,af yv.n,.string yv.s,.string kY,af gP,.slice yA ts.length yc]] w λ e w'=>e=.returned (.tuple #[ag (fU cols JX ts).1,af (fU cols JX ts).2])/\aj w w'
   unfold fU;rw[<- hl2];rcases oO l with h0 |⟨pre,bad,post,rfl,Eo,jZ⟩
   ·have hf:gQ (l.map (·.2))=0:=qP λ a ha=>by obtain⟨z,hz,rfl⟩:=List.mem_map.1 ha;exact h0 z hz
    rw[if_neg (by rw[hf];decide)];have k:=UN gp (.slice CA cols.length cc) JX yv kY gP yA ts.length yc (l.map λ a=>(a.1,a.2.1)) w sB Zo (by rw[length_map];exact hlen) hn Taq (λ a ha=>by
     obtain⟨z,hz,rfl⟩:=List.mem_map.1 ha
     have:=ub z hz
     rw[h0 z hz] at this
     exact this)
    have hm:(l.map λ a=>(a.1,a.2.1)).map (·.2)=(l.map (·.2)).map (·.1):=by simp[Function.comp_def]
    rw[hm] at k;exact k
   ·have hbE:=ub bad Vb;have hf:gQ ((pre++bad::post).map (·.2))=bad.2.2:=by rw[map_append,map_cons];exact xq (λ a ha=>by obtain⟨z,hz',rfl⟩:=List.mem_map.1 ha;exact Eo z hz') jZ
    rw[if_pos (by rw[hf];exact jZ),hf];exact UK gp (.slice CA cols.length cc) JX yv kY gP yA ts.length yc (pre.map λ a=>(a.1,a.2.1)) bad.1 bad.2.1 bad.2.2 (post.map (·.1)) w sB Zo (by rw[<- hlen];simp;omega) hn Taq (λ a ha=>by
     obtain⟨z,hz',rfl⟩:=List.mem_map.1 ha
     have:=ub z (by simp[hz'])
     rw[Eo z hz'] at this
     exact this) hbE jZ
def Qy.all (q:Qy):List Tr:=q.items.map (·.1)++(q.cC++q.aL++q.ft)++q.ord.map (·.1)
def Et (k:Nat):Tr:=.mk 2 aN (je k) 0 []
structure dz where
 aF:List Tr
 aL:List aX
def qT (cols:List aX)(v:Val)(name:ByteArray)(width:Int)(n:Nat):Int:=
 let e:=(Tr.type cols (.mk 2 v name width (List.replicate n (.mk 1 aN ByteArray.empty 0 [])))).2
 if e≠0 then e else 42
mutual
def Tr.turn (aL:List Tr)(cols:List aX):Tr->dz->Except Int (Tr×dz)
 | .mk op v name width args,s=>
   match aL.findIdx? (λ g=>g.same (.mk op v name width args))with
   | some k=> .ok (Et k,s)
   | none=>
     if isAgg op=true then
      if (fU cols op args).2≠0 then .error (fU cols op args).2
      else .ok (Et s.aL.length,⟨s.aF++ [.mk op v name width args],s.aL++ [⟨je s.aL.length,(fU cols op args).1⟩]⟩)
     else match Tr.turns aL cols args s with
      | .error e=> .error e
      | .ok (ys,s')=>
        if op=2 then .error (qT cols v name width ys.length)
        else if ((Tr.mk op v name width ys).type s'.aL).2≠0 then .error ((Tr.mk op v name width ys).type s'.aL).2
        else .ok (.mk op v name width ys,s')
def Tr.turns (aL:List Tr)(cols:List aX):List Tr->dz->Except Int (List Tr×dz)
 | [],s=> .ok ([],s)
 | t::ts,s=>match Tr.turn aL cols t s with
   | .error e=> .error e
   | .ok (y,s')=>match Tr.turns aL cols ts s' with
     | .error e=> .error e
     | .ok (ys,Lt)=> .ok (y::ys,Lt)
end
def oZ (g:Bool)(aL:List Tr)(cols:List aX)(t:Tr)(s:dz):Except Int (Tr×Int×dz):=
 if g=false then(if (t.type cols).2≠0 then .error (t.type cols).2 else .ok (t,(t.type cols).1,s))
 else match t.turn aL cols s with
  | .error e=> .error e
  | .ok (y,s')=>if (y.type s'.aL).2≠0 then .error (y.type s'.aL).2 else .ok (y,(y.type s'.aL).1,s')
structure iX where
 aK:Bool
 head:List aX
 st:dz
 items:List Tr
 having:List Tr
 order:List Tr
def pd (cols:List aX):List Tr->Except Int Unit
 | []=> .ok ()
 | t::ts=>if nA (t.type cols)≠0 then .error (nA (t.type cols))else pd cols ts
def kM (cols:List aX):List Tr->Nat->Except Int (List aX)
 | [],_=> .ok []
 | t::ts,k=>if (t.type cols).2≠0 then .error (t.type cols).2 else match kM cols ts (k+1)with
   | .error e=> .error e
   | .ok l=> .ok (⟨je k,(t.type cols).1⟩::l)
def gZ (t:Tr)(nm:ByteArray):ByteArray:=if nm.size=0/\t.op=2 then t.name else nm
def dp (g:Bool)(aL:List Tr)(cols:List aX):List (Tr×ByteArray)->dz->Except Int (List Tr×List aX×dz)
 | [],s=> .ok ([],[],s)
 |(t,nm)::l,s=>match oZ g aL cols t s with
  | .error e=> .error e
  | .ok (y,k,s')=>match dp g aL cols l s' with
    | .error e=> .error e
    | .ok (ys,hd,Lt)=> .ok (y::ys,⟨gZ t nm,k⟩::hd,Lt)
def dA (g:Bool)(aL:List Tr)(cols:List aX):List Tr->dz->Except Int (List Tr×dz)
 | [],s=> .ok ([],s)
 | t::l,s=>match oZ g aL cols t s with
   | .error e=> .error e
   | .ok (y,k,s')=>if bZ k 1=false then .error 40 else match dA g aL cols l s' with
     | .error e=> .error e
     | .ok (ys,Lt)=> .ok (y::ys,Lt)
def ep (g:Bool)(aL:List Tr)(cols:List aX):List (Tr×Bool)->dz->Except Int (List Tr×dz)
 | [],s=> .ok ([],s)
 |(t,_)::l,s=>match oZ g aL cols t s with
  | .error e=> .error e
  | .ok (y,_,s')=>match ep g aL cols l s' with
    | .error e=> .error e
    | .ok (ys,Lt)=> .ok (y::ys,Lt)
def et (q:Qy)(cols:List aX):Except Int iX:=
 if 1 < q.cC.length\/1 < q.ft.length\/1 < q.lim.length\/(q.lim.length=1/\q.lim.getD 0 0 < 0)then .error 1
 else if q.all.any (λ t=>decide (32 < t.depth))=true then .error 1
 else match pd cols q.cC with
 | .error e=> .error e
 | .ok _=>match kM cols q.aL 0 with
 | .error e=> .error e
 | .ok gc=>if q.items=[]/\q.aK=true then .error 42
 else match dp q.aK q.aL cols q.items ⟨[],gc⟩with
 | .error e=> .error e
 | .ok (is,hd,s1)=>match dA q.aK q.aL cols q.ft s1 with
 | .error e=> .error e
 | .ok (hs,s2)=>match ep q.aK q.aL cols q.ord s2 with
 | .error e=> .error e
 | .ok (os,s3)=> .ok ⟨q.aK,if q.items=[] then cols else hd,s3,is,hs,os⟩
def bu (cols:List aX)(row:List Val)(l:List Tr):Except Int (List Val):=
 if cM (Tr.iO cols row l)≠0 then .error (cM (Tr.iO cols row l))else .ok ((Tr.iO cols row l).map (·.1))
def iD (cols:List aX)(l:List Tr)(row:List Val):Bool×Int:=match l with
 | []=>(true,0)
 | t::_=>vF (t.eval cols row)
def cE (cols:List aX)(l:List Tr)(rows:List (List Val)):List (List Val)×Int:=
 (rows.filter λ r=>(iD cols l r).2==0 &&(iD cols l r).1,dh (rows.map λ r=>(iD cols l r).2))
def FN (c:aX)(v:Val):Bool:=good v &&(v.k==0 || v.k==c.t)
def iR:List aX->List Val->Bool
 | [],[]=>true
 | c::cs,v::vs=>FN c v && iR cs vs
 | _,_=>false
noncomputable def gF (s:St):Val×Int:=open Classical in if h:∃r:Val×Int,gI s r.1 r.2/\r.1.Ok then Classical.choose h else if h:∃r:Val×Int,gI s r.1 r.2 then Classical.choose h else(aN,0)
theorem IC{s:St}(h:∃v e,gI s v e):gI s (gF s).1 (gF s).2:=by
 obtain⟨v,e,hv⟩:=h;have h':∃r:Val×Int,gI s r.1 r.2:=⟨(v,e),hv⟩;by_cases h2:∃r:Val×Int,gI s r.1 r.2/\r.1.Ok
 ·unfold gF;rw[dif_pos h2];exact(Classical.choose_spec h2).1
 ·unfold gF;rw[dif_neg h2,dif_pos h'];exact Classical.choose_spec h'
theorem ach{s:St}(h:∃v e,gI s v e/\v.Ok):(gF s).1.Ok:=by obtain⟨v,e,hv⟩:=h;have h':∃r:Val×Int,gI s r.1 r.2/\r.1.Ok:=⟨(v,e),hv⟩;unfold gF;rw[dif_pos h'];exact(Classical.choose_spec h').2
def fw:List Tr->List Val->List (Val×Val)
 | [],_=> []
 | t::ts,l=>(if 0 < t.args.length then l.getD 0 aN else aN,if 1 < t.args.length then l.getD 1 aN else aN)::fw ts (l.drop t.args.length)
def gK (l:List (List Val)):List (List Val):=tO cI l
def nV (i:Nat)(l:List (List Val×List (Val×Val)))(k:List Val):List (Val×Val):=(l.filter λ r=>cI r.1 k==0).map λ r=>r.2.getD i (aN,aN)
noncomputable def cY (ops:List Int) (l:List (List Val×List (Val×Val))) (k:List Val):List (Val×Int):=(List.range ops.length).map λ i=>gF (jt (ops.getD i 0) (nV i l k))
noncomputable def fK (ng:Nat) (aF:List Tr) (l:List (List Val)):Except Int (List (List Val)):=
 let ps:=l.map λ r=>(r.take ng,fw aF (r.drop ng))
 let ks:=if ng=0 then [[]] else gK (ps.map (·.1))
 let e:=dh (ks.map λ k=>cM (cY (aF.map Tr.op) ps k))
 if e≠0 then .error e else .ok (ks.map λ k=>k++(cY (aF.map Tr.op) ps k).map (·.1))
variable{α:Type}
def uh(l:List (Except Int α)):Except Int (List α):=
 if dh (l.map λ | .error e=>e | .ok _=>0)≠0 then .error (dh (l.map λ | .error e=>e | .ok _=>0))else .ok (l.filterMap λ | .ok x=>some x | .error _=>none)
structure eG where
 row:List Val
 keys:List Val
def Zt (d:Bool)(a b:Val):Int:=if d=true then -(bI a b)else bI a b
def vO:List Bool->List Val->List Val->Int
 | [],_,_=>0
 | d::ds,a,b=>nQ (Zt d (a.headD aN) (b.headD aN)) (vO ds a.tail b.tail)
def BO (ds:List Bool)(a b:eG):Int:=nQ (vO ds a.keys b.keys) (cI a.row b.row)
def kZ (ds:List Bool)(l:List eG):List eG:=Ll (BO ds) l
noncomputable def nX (q:Qy) (p:iX) (cols:List aX) (rows:List (List Val)):Except Int (List (List Val)):=
 if (cE cols q.cC rows).2≠0 then .error (cE cols q.cC rows).2
 else if p.aK=false then .ok (cE cols q.cC rows).1
 else match uh ((cE cols q.cC rows).1.map λ r=>bu cols r (q.aL++p.st.aF.flatMap Tr.args))with
 | .error e=> .error e
 | .ok l=>match fK q.aL.length p.st.aF l with
   | .error e=> .error e
   | .ok gs=>if (cE p.st.aL p.having gs).2≠0 then .error (cE p.st.aL p.having gs).2 else .ok (cE p.st.aL p.having gs).1
def iT (p:iX)(cols:List aX):List aX:=if p.aK=true then p.st.aL else cols
def Sx (p:iX)(r l:List Val):eG:=⟨if p.items=[] then r else l.take p.items.length,l.drop p.items.length⟩
noncomputable def nC (p:iX) (cols:List aX) (rows:List (List Val)):Except Int (List eG):=
 uh (rows.map λ r=>match bu (iT p cols) r (p.items++p.order)with | .error e=> .error e | .ok l=> .ok (Sx p r l))
noncomputable def lx (q:Qy) (cols:List aX) (rows:List (List Val)):Except Int (List aX×List (List Val)):=
 match et q cols with
 | .error e=> .error e
 | .ok p=>if rows.any (λ r=> !iR cols r)=true then .error 40
   else match nX q p cols rows with
   | .error e=> .error e
   | .ok left=>match nC p cols left with
     | .error e=> .error e
     | .ok ls=> .ok (p.head,((match q.lim with | []=>kZ (q.ord.map λ o:Tr×Bool=>o.2) ls | n::_=>(kZ (q.ord.map λ o:Tr×Bool=>o.2) ls).take n.toNat).map eG.row))
def aci (gb:Nat)(b e:Int)(w:World)(en:Ending)(w':World):Prop:=en=.returned (.bool (e==0))/\aB w' gb 84 #[af (nx b e)]/\w.grownBy w' (some gb)
theorem BP{b:Int}:nx b 0=b:=if_neg (λ h=>h.1 rfl)
theorem Zu(h:e≠0):nx 0 e=e:=if_pos ⟨h,.inl rfl⟩
theorem UT{b:Int}(h:e≠0)(hb:b≠0):nx b e=if e < b then e else b:=by
 unfold nx;by_cases h1:e < b
 ·rw[if_pos ⟨h,.inr h1⟩,if_pos h1]
 ·rw[if_neg (λ h2=>h2.2.elim hb h1),if_neg h1]
theorem vP (gb:Nat)(b e:Int)(w:World)(h:aB w gb 84 #[af b]):ar 36 #[aw gb,af e] w (aci gb b e w):=by
 have hg:=aR (p:=gb) (Below.refl w.heap.size w);have hc:=h.cell 0;have hf:=h.frozen 0;simp only[getElem?_toArray,getElem?_cons_zero] at hc;by_cases h0:e=0
 ·subst h0;have H:=aa h;clear h;go_enter Tryz.func36,Tryz.ntmps36;go_wp2_with fail;go_ret;exact⟨rfl,by rw[BP];exact H.ae,hg⟩
 have t1:(e==0)=false:=by simp[h0]
 have t2:(e != 0)=true:=by simp[h0]
 have t3:decide (e=0)=false:=by simp[h0]
 by_cases hb:b=0
 ·subst hb;have H:=aa h;have HP:=aa (Zu h0);have T1:=aa t1;clear h h0;exact Ze4
 have u1:(b==0)=false:=by simp[hb]
 have u3:decide (b=0)=false:=by simp[hb]
 have hp:=UT h0 hb;by_cases hl:e < b
 ·rw[if_pos hl] at hp;have v1:=decide_eq_true hl;have H:=aa h;have HP:=aa hp;have T1:=aa t1;clear h h0 hb hp hl;exact Ze4
 ·rw[if_neg hl] at hp;have v1:=decide_eq_false hl;have H:=aa h;have HP:=aa hp;have T1:=aa t1;clear h h0 hb hp hl;go_enter Tryz.func36,Tryz.ntmps36;go_wp2_with fail;go_ret;exact⟨by rw[T1.ae];rfl,by rw[HP.ae];exact H.ae,hg⟩
def bX (r:aW):List Value:=[.slice r.A r.l.length r.c]
variable{base base':Nat}
theorem aH.down{f:α->List Value} {e:TypeId} {size:Nat} {w:World}  {v:Value} {l:List α}(h:aH f e size w base v l)(hb:base'<=base):aH f e size w base' v l:=by
 obtain⟨h1,h2⟩:=h;refine⟨h1,?_⟩;rcases h2 with h2 |⟨g,cap,cur,h3,h4,h5⟩
 ·exact .inl h2
 ·exact .inr ⟨g,cap,cur,h3,Nat.le_trans hb h4,h5⟩
theorem qU:(Tryz.prog.info? 38).map (λ i=>(i.zero,i.size,i.bytes))=some (some (az),1,24):=by exact Zgu
def jw (f:List Val->Bool×Int)(rs:List aW):List aW:=rs.filter λ r=>(f r.l).2==0 &&(f r.l).1
theorem Pj (f:List Val->Bool×Int)(rs:List aW)(r:aW):jw f (rs++ [r])=jw f rs++(if ((f r.l).2==0 &&(f r.l).1)=true then [r] else []):=by unfold jw;rw[filter_append];congr 1;rw[filter_cons];rfl
theorem qV (l:List Int)(e:Int):dh (l++ [e])=nx (dh l) e:=by unfold dh;rw[foldl_append];rfl
variable{wr w2:World}{g:Nat}
theorem cq{w:World} (h:aj w wr)(hg:wr.grownBy w2 (some g))(hB:w.heap.size<=g):aj w w2:=
 h.trans ⟨hg.os,hg.tape,hg.output,hg.size,λ k hk=>hg.block k (Nat.lt_of_lt_of_le hk h.size) (λ e=>by injection e with e;omega)⟩
def acj (kv:Value)(gb:Nat)(le:Int):Nat->World->Value->Prop
 | 0,_,v=>v=kv
 | 1,_,v=>v=aw gb
 | 2,_,v=>v=af le
 | 3,_,v=>v=kv
 | 4,_,v=>v=af le
 | _,_,_=>False
theorem BQ (kv:Value)(gb:Nat)(le:Int):∀i w w' v,acj kv gb le i w v->ai w w'->acj kv gb le i w' v:=by exact ZgJ
theorem zhR.Kcd(h:p:=by have ID:=ai.then hb hL;have HK5:=HK.ae.later hL;go_wp2_with fail;exact bodyPost_ret (v:=.tuple #[u9,af FO]) (by simp[results,Tryz.results32,go_sem]) rfl ⟨_,by rw[UU.ae],HK5.down (Nat.le_of_lt HS0.ae),ID⟩):p:=h
theorem Zv (lV cV:Value)(f:List Val->Bool×Int)(rows:List aW)(RA:Option Addr)(rc:Nat)(w:World)(hr:rows.length<=1000000)(hR:RR w w.heap.size RA rows)
  (hT:∀r∈rows,∀W1,aj w W1->ar 16 #[lV,cV,.slice r.A r.l.length r.c] W1 λ e w'=>e=.returned (.tuple #[.bool (f r.l).1,af (f r.l).2])/\aj W1 w'):
  ar 32 #[lV,cV,.slice RA rows.length rc] w λ e w'=>∃v,e=.returned (.tuple #[v,af (dh (rows.map λ r=>(f r.l).2))])/\aH bX 38 1 w' w.heap.size v (jw f rows)/\aj w w':=by
 have HR:=aa hR;have HT:=aa hT;clear hR hT;have HX:=aB.new w 84 #[af 0];have h2:=ah w (.cells #[af 0] 84);have HS0:=aa (show w.heap.size <(w.alloc (.cells #[af 0] 84)).heap.size by rw[World.size_alloc];omega);go_enter Tryz.func32,Tryz.ntmps32;go_upto_region 2 with fail;generalize w.alloc _=W1 at*;obtain⟨g,hg⟩:∃g,g=w.heap.size:=⟨_,rfl⟩;rw[<- hg] at HX ⊢;have wj:=aa hg;clear hg;have H1:=aa HX;have H2:=aa h2;clear HX h2;go_wp2_with fail;go_loopw [9,16] (λ kv i wr=>∃k:Nat,k<=rows.length/\i=af k/\aH bX 38 1 wr W1.heap.size kv (jw f (rows.take k))/\aB wr g 84 #[af (dh ((rows.take k).map λ r=>(f r.l).2))]/\aj w wr/\W1.heap.size<=wr.heap.size) (λ _ i _=>rows.length - (intOf i).toNat);case atStart=>exact⟨0,Nat.zero_le _,rfl,aH.nil,H1.ae,H2.ae,Nat.le_refl _⟩
 case round=>
  clear H1 H2;obtain⟨k,hk,rfl,hK,hL,hb,hs⟩:=hrel;have HK:=aa hK;have Q3:=aa hL;clear hK hL;by_cases hlt:k < rows.length
  ·obtain⟨b,off,rfl,kG,hcell⟩:=(HR.ae.below hb).at_ hlt;have ht:=HT.ae rows[k] (getElem_mem hlt);have oY:=aa (show rows.take (k+1)=rows.take k++ [rows[k]] by rw[take_add_one,getElem?_eq_getElem hlt];rfl);generalize rows[k]=r at*;have nD:=aa (show jw f (rows.take (k+1))=jw f (rows.take k)++(if ((f r.l).2==0 &&(f r.l).1)=true then [r] else []) by rw[oY.ae,Pj]);have Ke:=aa (show dh ((rows.take (k+1)).map λ r=>(f r.l).2)=nx (dh ((rows.take k).map λ r=>(f r.l).2)) (f r.l).2 by rw[oY.ae,map_append];exact qV _ _);have Ak:(jw f (rows.take k)).length<=1000000:=Nat.le_trans (length_filter_le _ _) TaS;generalize jw f (rows.take k)=ks at*;generalize dh ((rows.take k).map λ r=>(f r.l).2)=FO at*;clear oY;obtain⟨is,ama⟩:∃is,is=(f r.l).1:=⟨_,rfl⟩;obtain⟨er,her⟩:∃er,er=(f r.l).2:=⟨_,rfl⟩;rw[<- ama,<- her] at ht nD;rw[<- her] at Ke;have oK:=aa ht;clear ht ama her;have Zw:=hcell.1;clear hcell;go_wp2_with fail;refine(oK.ae _ hb).mono ?_;rintro e w1 ⟨rfl,b1⟩;have hb1:=ai.then hb b1;replace HK:=aa (HK.ae.later b1);replace Q3:=aa (Q3.ae.later b1);replace hs:=Nat.le_trans hs b1.size;clear b1 oK Zw hb;go_wp2_with fail;refine(vP g FO er _ Q3.ae).mono ?_;rintro e W2 ⟨rfl,hl2,hg2⟩;have hne:=HK.ae.other Q3.ae WC;replace HK:=aa (HK.ae.grown hg2 hne);have hb2:=cq hb1 hg2 TaO;replace hs:=Nat.le_trans hs hg2.size;replace Q3:=aa hl2;clear hg2 hne hb1 hl2;by_cases he:er=0
   ·subst he;cases is
    ·go_wp2_with fail;go_roundw;case rel=>exact⟨k+1,hlt,by go_num,by rw[nD.ae];simpa using HK.ae,by rw[Ke.ae];exact Q3.ae,hb2,hs⟩
     case measure=>exact Za2
    ·go_upto_region 8 with fail;have b3:=ah W2 (.cells #[.slice r.A r.l.length r.c] 38);have hG:=aB.new W2 38 #[.slice r.A r.l.length r.c];have hb3:=ai.then hb2 b3
     replace HK:=aa (HK.ae.later b3);replace Q3:=aa (Q3.ae.later b3);have hbase:=Nat.le_trans hs b3.size;have HG:=aa hG;have hne:=HK.ae.other Q3.ae WC;have nJ:=aa hne;have HS:=aa hbase;clear hG b3 hne;go_wp2_with (first
      |(at_builtin
        refine aU rfl (.tmp 32) (.tmp 34) 29 rfl _ 24 Tryz.underlying29 qU rfl Tq r rfl TaA rfl HK.ae W2.heap.size rfl HG.ae Tq Tq hbase ?_
        intro v4 w4 o4 g4
        have b4:=bj HK.ae g4 hbase
        have L4:=aa (Q3.ae.grown g4 (Ne.symm nJ.ae))
        have s4:=Nat.le_trans HS.ae g4.size
        have O4:=aa o4
        clear o4 g4 HK HG Q3))
     go_roundw;case rel=>exact⟨k+1,hlt,by go_num,by rw[nD.ae];simpa using O4.ae,by rw[Ke.ae];exact L4.ae,hb3.trans (b4.mono (Nat.le_of_lt HS0.ae)),s4⟩
     case measure=>exact Za2
   ·have t1:(er==0)=false:=by simp[he]
    have T1:=aa t1;clear he;go_wp2_with fail;go_roundw;case rel=>exact⟨k+1,hlt,by go_num,by rw[nD.ae,T1.ae];simpa using HK.ae,by rw[Ke.ae];exact Q3.ae,hb2,hs⟩
    case measure=>exact Za2
  ·have lT:rows.take k=rows:=take_of_length_le Tq;rw[lT] at HK Q3;have Lr:=aa (show dh (rows.map λ r=>(f r.l).2)=dh (rows.map λ r=>(f r.l).2)from rfl);generalize hle:dh (rows.map λ r=>(f r.l).2)=FO at*;clear Lr;have UU:=aa hle;clear hle;go_upto_region 10 with fail;refine bB 5 (acj u9 g FO) (BQ _ _ _) T8 T8 T8 ?_ ?_
   ·exact ZeG
   intro W3 hL;simp only[Uab];rintro a0 - a1 - a2 - a3 q9 FM UM;replace q9:u9=a3:=Eq.symm q9;open zhR in exact Zgm
def bF (y:Ex):List Value:=[ag y.op,ag y.v.k,af y.v.n,.string y.v.s,.string y.name,af y.width,.slice y.A y.n y.c]
theorem fL:(Tryz.prog.info? 46).map (λ i=>(i.zero,i.size,i.bytes))=some (some (.agg dm),7,88):=by exact Zgu
theorem Zx (n:Nat)(hn:n<=1000000)(w:World):ar 69 #[az,af n] w λ e w'=>∃v,e=.returned v/\aH bF 46 7 w' w.heap.size v []/\aj w w':=by
 have hb:=Below.refl w.heap.size w;by_cases h0:n=0
 ·subst h0;go_enter Tryz.func69,Tryz.ntmps69;go_wp2_with fail;go_ret;exact⟨_,rfl,aH.nil,hb⟩
 obtain⟨i0,kX,hz0,hz1,hz2⟩:=info_parts fL;have hrun:=Lib.run_append_nil_zeros (P:=Tryz.prog) w 23 3 23 46 i0 _ .i64 .i64 Tryz.underlying23 Tryz.underlying3 kX hz0 n Tq (by rw[hz1];decide) Tq (by rw[hz2];omega);have vr:=grownCap_ge w n 0 46;have hle:=grownCap_le_maxLen w n 0 46 Taj
 have hown:aH bF 46 7 (w.drew.alloc (.cells (Builtin.zeroCells (Value.agg dm).cells n++Builtin.zeroCells (Value.agg dm).cells (grownCap w n 0 46 - n)) 46)) w.heap.size (aI w.heap.size 0 (grownCap w n 0 46)) []:=by
  refine⟨by simp,.inr ⟨w.heap.size,_,_,rfl,Nat.le_refl _,heap_alloc_new w.drew _,Nat.zero_le _,hle,?_,by simp⟩⟩;rw[Array.size_append,size_zeroCells,size_zeroCells];have e:(Value.agg dm).cells.size=7:=by kernel_rfl
  rw[e,<- Nat.add_mul];congr 1;omega
 have hb2:aj w (w.drew.alloc (.cells (Builtin.zeroCells (Value.agg dm).cells n++Builtin.zeroCells (Value.agg dm).cells (grownCap w n 0 46 - n)) 46)):=hb.drew.alloc (Nat.le_refl _) _;generalize World.alloc w.drew _=W at*;generalize grownCap w n 0 46=cp at*;have hnp:decide ((0:Int)<(n:Int))=true:=decide_eq_true Tq;have aAo:decide (0 < n)=true:=decide_eq_true Tq;have atb:=aa hrun;have atc:=aa hown;have fG:=aa hb2;clear hrun hown hb2 h0 hb;go_enter Tryz.func69,Tryz.ntmps69;go_wp2_with (first
  |(at_builtin
    refine Lib.wpList_append_run _ rfl (.tmp 20) (.tmp 21) 23 3 rfl _ _ rfl rfl _ _ atb.ae ?_))
 go_ret;exact⟨_,rfl,atc.ae,fG.ae⟩
end Go.Proofs.YtndgjggokjickaaGreatDoor
namespace Go.Proofs.YtndgjggokjickaaGreatDoor.R
open List
variable{p:Prop}
set_option maxHeartbeats 90000000
set_option maxRecDepth 100000
set_option linter.unusedSimpArgs false
set_option linter.unusedVariables false
def fM (c:UInt8):Bool:=(decide (97<=c)&& decide (c<=122))||(decide (65<=c)&& decide (c<=90))|| c==95
def bC (c:UInt8):Bool:=decide (48<=c)&& decide (c<=57)
def eP (c:UInt8):Bool:=fM c || bC c
def qW (c:UInt8):Bool:=c==32 || c==9 || c==10 || c==13
def IE (c:UInt8):Bool:=decide (65<=c)&& decide (c<=90)
def vQ (c:UInt8):UInt8:=if IE c then c+32 else c
def cw:Bool->List UInt8->List UInt8
 | _,[]=> []
 | true,c::r=>if c=10 then cw false r else cw true r
 | false,c::r=>if qW c then cw false r else if c=45/\r.head?=some 45 then cw true r else c::r
def ly (l:List UInt8):Nat:=l.foldl (λ v c=>v*10+(c.toNat - 48)) 0
def vR (l:List UInt8):Bool:=(decide (l.length<=1)|| !(l.head?==some 48))&& decide (ly l<=9223372036854775807)
def fN:List UInt8->Option (List UInt8×List UInt8)
 | []=>none
 | [c]=>if c=39 then some ([],[])else none
 | c::d::r=>if c=39 then(if d=39 then(fN r).map λ x=>(39::x.1,x.2)else some ([],d::r))else(fN (d::r)).map λ x=>(c::x.1,x.2)
def signs:List (List UInt8):=[[60,62],[60,61],[62,61],[40],[41],[44],[42],[43],[45],[47],[37],[61],[60],[62],[59]]
def kN:List (List UInt8)->List UInt8->Option (List UInt8)
 | [],_=>none
 | s::l,r=>if s.isPrefixOf r then some s else kN l r
structure Wd where
 k:Nat
 s:List UInt8
 n:Int
deriving DecidableEq
structure qX where
 w:Wd
 p:Nat
deriving DecidableEq
def ia:List UInt8->Except Nat (Wd×List UInt8)
 | []=> .error 30
 | c::r=>
   if fM c then(if ((c::r).takeWhile eP).length<=32 then .ok (⟨1,((c::r).takeWhile eP).map vQ,0⟩,(c::r).dropWhile eP)else .error 2)
   else if bC c then(if vR ((c::r).takeWhile bC)&& !(((c::r).dropWhile bC).head?.any fM)then .ok (⟨2,[],ly ((c::r).takeWhile bC)⟩,(c::r).dropWhile bC)else .error 30)
   else if c=39 then(match fN r with
    | some (t,rest)=> .ok (⟨3,t,0⟩,rest)
    | none=> .error 30)
   else match kN signs (c::r)with
    | some s=> .ok (⟨4,s,0⟩,(c::r).drop s.length)
    | none=> .error 30
def xE (n:Nat):Nat->List UInt8->Except (Nat×Nat) (List qX)
 | 0,_=> .error (0,30)
 | f+1,r=>match cw false r with
   | []=> .ok [⟨⟨0,[],0⟩,n⟩]
   | c::r'=>match ia (c::r')with
     | .error e=> .error (n - (c::r').length,e)
     | .ok (w,rest)=>match xE n f rest with
       | .error e=> .error e
       | .ok l=> .ok (⟨w,n - (c::r').length⟩::l)
def zO (s:List UInt8):Except (Nat×Nat) (List qX):=if 4096 < s.length then .error (0,2)else xE s.length (s.length+1) s
def nE:List (List UInt8):=[[97,110,100],[97,115],[98,121],[99,97,108,108],[99,114,101,97,116,101],[100,101,108,101,116,101],[100,101,115,99],[100,114,111,112],[102,97,108,115,101],[102,114,111,109],[103,114,111,117,112],[104,97,118,105,110,103],[105,110,115,101,114,116],[105,110,116,111],[105,115],[108,105,109,105,116],[110,111,116],[110,117,108,108],[111,110,108,121],[111,114],[111,114,100,101,114],[115,101,108,101,99,116],[115,101,116],[116,114,117,101],[117,112,100,97,116,101],[118,97,108,117,101,115],[119,104,101,114,101]]
def tu (s:List UInt8):Bool:=nE.contains s
theorem kq:∀(b:Bool) (r:List UInt8),(cw b r).length<=r.length
 | _,[]=>by simp[cw]
 | true,c::r=>by have h1:=kq false r;have h2:=kq true r;simp only[cw];split <;> simp only[length_cons] <;> omega
 | false,c::r=>by
   have h1:=kq false r;have h2:=kq true r;simp only[cw];split
   ·simp only[length_cons];omega
   ·split <;> simp only[length_cons] <;> omega
theorem qY:∀(r:List UInt8) (t rest:List UInt8),fN r=some (t,rest)->∃b,r=b++rest/\b≠ []
 | [],t,rest,h=>by simp[fN] at h
 | [c],t,rest,h=>by
   simp only[fN] at h;split at h
   ·rename_i hc;injection h with h;injection h with h1 h2;subst h1 h2 hc;exact⟨[39],rfl,by simp⟩
   ·cases h
 | c::d::r,t,rest,h=>by
   simp only[fN] at h;split at h
   ·rename_i hc;subst hc;split at h
    ·rename_i hd;subst hd;cases hr:fN r with
     | none=>rw[hr] at h;cases h
     | some x=>obtain⟨t',rest'⟩:=x;rw[hr] at h;simp only[Option.map_some,Option.some.injEq,Prod.mk.injEq] at h;obtain⟨rfl,rfl⟩:=h;obtain⟨b,hb,_⟩:=qY r t' _ hr;exact⟨39::39::b,by rw[hb];rfl,by simp⟩
    ·injection h with h;injection h with h1 h2;subst h1 h2;exact⟨[39],rfl,by simp⟩
   ·cases hr:fN (d::r)with
    | none=>rw[hr] at h;cases h
    | some x=>obtain⟨t',rest'⟩:=x;rw[hr] at h;simp only[Option.map_some,Option.some.injEq,Prod.mk.injEq] at h;obtain⟨rfl,rfl⟩:=h;obtain⟨b,hb,_⟩:=qY (d::r) t' _ hr;exact⟨c::b,by rw[hb];rfl,by simp⟩
theorem qZ:∀ {l:List (List UInt8)} {r s:List UInt8},kN l r=some s->s∈l/\s <+: r
 | [],r,s,h=>by simp[kN] at h
 | x::l,r,s,h=>by
   simp only[kN] at h;split at h
   ·rename_i hp;injection h with h;subst h;exact⟨mem_cons_self,by simpa using hp⟩
   ·obtain⟨h1,h2⟩:=qZ h;exact⟨mem_cons_of_mem _ h1,h2⟩
variable{r rest:List UInt8}
theorem BR{w:Wd}(h:ia r=.ok (w,rest)):∃b,r=b++rest/\b≠ []:=by
 match r with
 | []=>simp[ia] at h
 | c::r=>
   simp only[ia] at h;split at h
   ·rename_i hc;split at h
    ·injection h with h;injection h with h1 h2;subst h1 h2;refine⟨_,(takeWhile_append_dropWhile (p:=eP)).symm,?_⟩;have:eP c=true:=by simp[eP,hc]
     simp[takeWhile_cons,this]
    ·cases h
   ·split at h
    ·rename_i hc;split at h
     ·injection h with h;injection h with h1 h2;subst h1 h2;refine⟨_,(takeWhile_append_dropWhile (p:=bC)).symm,?_⟩;simp[takeWhile_cons,hc]
     ·cases h
    ·split at h
     ·split at h
      ·rename_i t rest' ht;injection h with h;injection h with h1 h2;subst h1 h2;obtain⟨b,hb,_⟩:=qY _ _ _ ht;exact⟨c::b,by rw[hb];rfl,by simp⟩
      ·cases h
     ·split at h
      ·rename_i s hs;injection h with h;injection h with h1 h2;subst h1 h2;obtain⟨h1,t,h2⟩:=qZ hs;refine⟨s,?_,?_⟩
       ·rw[<- h2];simp
       ·intro e;subst e;revert h1;decide
      ·cases h
theorem Au{w:Wd}(h:ia r=.ok (w,rest)):rest.length < r.length:=by obtain⟨b,rfl,hb⟩:=BR h;have:0 < b.length:=List.length_pos_iff.2 hb;simp;omega
theorem FP (n:Nat):∀(f g:Nat) (r:List UInt8),r.length < f->r.length < g->xE n f r=xE n g r
 | 0,_,_,h,_=>by omega
 | _,0,_,_,h=>by omega
 | f+1,g+1,r,hf,hg=>by
   have hs:=kq false r;simp only[xE];cases hk:cw false r with
   | nil=>rfl
   | cons c r'=>
     rw[hk] at hs;simp only;cases ho:ia (c::r')with
     | error e=>rfl
     | ok x=>obtain⟨w,rest⟩:=x;have:=Au ho;simp only;rw[FP n f g rest Tq Tq]
structure Val where
 k:Int
 n:Int
 s:ByteArray
inductive Tr where
 | mk (op:Int) (v:Val) (name:ByteArray) (width:Int) (args:List Tr)
def jL:Val:=⟨0,0,ByteArray.empty⟩
def Av (op:Int)(l:List Tr):Tr:=.mk op jL ByteArray.empty 0 l
def tx (v:Val):Tr:=.mk 1 v ByteArray.empty 0 []
def ui (n:ByteArray):Tr:=.mk 2 jL n 0 []
def aho:List UInt8:=[111,114]
def Zy:List UInt8:=[97,110,100]
def Zz:List UInt8:=[110,111,116]
def ack:List UInt8:=[105,115]
def ZA:List UInt8:=[110,117,108,108]
def Pk:List UInt8:=[116,114,117,101]
def Aw:List UInt8:=[102,97,108,115,101]
def fj:List UInt8:=[115,101,108,101,99,116]
def xF:List UInt8:=[102,114,111,109]
def ahp:List UInt8:=[111,110,108,121]
def IG:List UInt8:=[119,104,101,114,101]
def Ax:List UInt8:=[103,114,111,117,112]
def Pl:List UInt8:=[98,121]
def ZB:List UInt8:=[104,97,118,105,110,103]
def II:List UInt8:=[111,114,100,101,114]
def IJ:List UInt8:=[108,105,109,105,116]
def Pm:List UInt8:=[100,101,115,99]
def acm:List UInt8:=[97,115]
def BS:List UInt8:=[98,117,99,107,101,116]
def IK:List UInt8:=[99,111,117,110,116]
def ZC:List UInt8:=[115,117,109]
def afk:List UInt8:=[109,105,110]
def afl:List UInt8:=[109,97,120]
def afm:List UInt8:=[97,118,103]
def Sy:List UInt8:=[102,105,114,115,116]
def ZE:List UInt8:=[108,97,115,116]
def dM:List UInt8:=[44]
def eC:List UInt8:=[40]
def ez:List UInt8:=[41]
def ahq:List UInt8:=[59]
def xG:List UInt8:=[42]
def sD:List UInt8:=[45]
def Pn:List UInt8:=[43]
def IL:List UInt8:=[47]
def xH:List UInt8:=[37]
def amb:List UInt8:=[61]
def amc:List UInt8:=[60,62]
def amd:List UInt8:=[60]
def ame:List UInt8:=[60,61]
def ahr:List UInt8:=[62]
def amf:List UInt8:=[62,61]
structure Qu where
 items:List (Tr×ByteArray):=[]
 bS:ByteArray:=ByteArray.empty
 only:Bool:=false
 cC:List Tr:=[]
 group:List Tr:=[]
 having:List Tr:=[]
 order:List (Tr×Bool):=[]
 dx:List Int:=[]
structure St where
 kind:Int:=0
 name:ByteArray:=ByteArray.empty
 cols:List (ByteArray×Int):=[]
 time:ByteArray:=ByteArray.empty
 every:Int:=0
 space:ByteArray:=ByteArray.empty
 parts:Int:=0
 query:Qu:= {}
 what:Int:=0
 of_:ByteArray:=ByteArray.empty
 a:Int:=0
 b:Int:=0
 rows:List (List Tr):=[]
 ahs:List (ByteArray×Tr):=[]
 cC:List Tr:=[]
 bS:Val:=jL
 eD:Val:=jL
abbrev dI:=List Wd
def Ps (α:Type):Type:=dI->Except Nat (α×dI)
instance:Monad Ps where
 pure x:=λ l=> .ok (x,l)
 bind p f:=λ l=>match p l with
  | .error n=> .error n
  | .ok (x,r)=>f x r
def iY (s:List UInt8)(t:Wd):Bool:=(t.k==1 || t.k==4)&& t.s==s
def dJ (s:List UInt8):dI->Bool
 | []=>false
 | t::_=>iY s t
def may (s:List UInt8):Ps Bool:=λ l=>if dJ s l then .ok (true,l.tail)else .ok (false,l)
def must (s:List UInt8):Ps Unit:=λ l=>if dJ s l then .ok ((),l.tail)else .error l.length
def vS:Ps ByteArray
 | []=> .error 0
 | t::r=>if t.k=1/\tu t.s=false then .ok (⟨t.s.toArray⟩,r)else .error (t::r).length
def IM:Ps Int
 | []=> .error 0
 | t::r=>if t.k=2 then .ok (t.n,r)else .error (t::r).length
def opsL:Nat->List (List UInt8×Int)
 | 0=> [(aho,17)]
 | 1=> [(Zy,16)]
 | 3=> [(amb,10),(amc,11),(amd,12),(ame,13),(ahr,14),(amf,15)]
 | 4=> [(Pn,5),(sD,6)]
 | 5=> [(xG,7),(IL,8),(xH,9)]
 | _=> []
def ZF:List (List UInt8×Int)->dI->Option Int
 | [],_=>none
 |(s,o)::k,l=>if dJ s l then some o else ZF k l
def Po:List (List UInt8×Int):=[(BS,20),(IK,22),(ZC,23),(afk,24),(afl,25),(afm,26),(Sy,27),(ZE,28)]
def ma (n:ByteArray):Option Int:=Po.lookup n.data.toList
mutual
def Tr.depth:Tr->Nat
 | .mk _ _ _ _ args=>Tr.iC args+1
def Tr.iC:List Tr->Nat
 | []=>0
 | t::l=>max t.depth (Tr.iC l)
end
def Qu.exprs (q:Qu):List Tr:=q.items.map (·.1)++q.cC++q.group++q.having++q.order.map (·.1)
def St.exprs (s:St):List Tr:=s.rows.flatten++s.ahs.map (·.2)++s.cC++s.query.exprs
def yS (l:dI):Prop:=∃x e,l=x++ [e]/\e.k=0
variable{t:Wd}
theorem yS.tail{r:dI}(h:yS (t::r))(ht:t.k≠0):yS r:=by
 obtain⟨x,e,hx,he⟩:=h
 match x with
 | []=>simp at hx;exact absurd (hx.1▸he) ht
 | y::x=>simp at hx;exact⟨x,e,hx.2,he⟩
theorem yS.pos{l:dI}(h:yS l):0 < l.length:=by obtain⟨x,e,rfl,_⟩:=h;simp
theorem amg{s:List UInt8} (h:iY s t=true):t.k≠0:=by unfold iY at h;simp at h;omega
theorem Lu{s:List UInt8} {l:dI}(h:dJ s l=true):∃t r,l=t::r/\iY s t=true:=by
 match l with
 | []=>simp[dJ] at h
 | t::r=>exact⟨t,r,rfl,h⟩
open Go.RowKit
section
variable {w w':World} {g:Nat} {t:TypeId} {cs:Array Value}
theorem _root_.Go.Proofs.YtndgjggokjickaaGreatDoor.aB.drewN (h:aB w g t cs)(n:Nat):aB (w.drewN n) g t cs:=h
end
variable{B:Nat}
theorem cq{p:Nat} {a b:World}(h:a.grownBy b (some p))(hB:B<=a.heap.size)(hp:B<=p):Below B a b:=
 ⟨h.os,h.tape,h.output,h.size,λ k hk=>h.block k Tq (λ e=>by injection e with e;omega)⟩
section
variable {α:Type} {f:α->List Value} {e:TypeId} {size:Nat} {w w':World} {base:Nat} {v:Value} {l:List α}
end
section
variable {P:Program} {l zs:List Oper} {Q:Exit->Act->World->Prop} {R:World->World->Prop} {V:Nat->World->Value->Prop} {a0:Act} {w0:World}
end
instance (B:Nat) (w0:World):Nonempty (Ext B w0):=⟨⟨w0,Below.refl _ _⟩⟩
section
variable {P:Program} {o:Oper} {ρ:Operand->Value} {w:World} {T:Value->World->Prop}
end
section
variable {α:Type} {f:α->List Value} {e:TypeId} {size:Nat} {base:Nat} {lv:Value} {l:List α} {y:α}
theorem yT {a b:World}(h:a.grownBy b none):aj a b:=⟨h.os,h.tape,h.output,h.size,λ k hk=>h.block k hk Vb⟩
end
section
variable {P:Program} {l zs:List Oper} {Q:Exit->Act->World->Prop} {R:World->World->Prop} {V:Nat->World->Value->Prop} {U:Nat->World->(Operand->Value)->Prop} {a0:Act} {w0:World}
end
open Go.ChangeShapes Go.WideShapes Go.ChangeAt
theorem jS{w:World} {p:Addr} {v:Value}(h:w.cell? p=some v):p.block < w.heap.size:=by
 rcases Nat.lt_or_ge p.block w.heap.size with hlt | vr
 ·exact hlt
 ·unfold World.cell? at h;rw[Array.getElem?_eq_none vr] at h;simp at h
def strOf (l:List UInt8):Value:=.string ⟨l.toArray⟩
variable{α:Type}
theorem xI{f:α->List Value} {size:Nat}(hf:∀x,(f x).length=size):∀(l:List α) (k:Nat) (x:α),l[k]?=some x->∀r u,(f x)[r]?=some u->(l.flatMap f)[k*size+r]?=some u
 | [],k,x,h,_,_,_=>by simp at h
 | y::l,0,x,h,r,u,hu=>by
   simp at h;subst h;have hr:r <(f y).length:=by
    rcases Nat.lt_or_ge r (f y).length with h' | h'
    ·exact h'
    ·rw[getElem?_eq_none h'] at hu;cases hu
   rw[Nat.zero_mul,Nat.zero_add,flatMap_cons,getElem?_append_left hr];exact hu
 | y::l,k+1,x,h,r,u,hu=>by have:=xI hf l k x Tah r u hu;rw[flatMap_cons,getElem?_append_right (by rw[hf,Nat.succ_mul];omega),hf];rw[show(k+1)*size+r - size=k*size+r by rw[Nat.succ_mul];omega];exact this
section
variable {α:Type} {f:α->List Value} {e:TypeId} {size:Nat} {w w':World} {base:Nat} {v:Value} {l:List α}
theorem _root_.Go.Proofs.YtndgjggokjickaaGreatDoor.aH.cell (hf:∀x,(f x).length=size)(h:aH f e size w base v l) {k:Nat} {x:α}(ho:l[k]?=some x):
  ∃g c,v=aI g l.length c/\base<=g/\g < w.heap.size/\∀r u,(f x)[r]?=some u->w.cell? ⟨g,k*size+r,none⟩=some u:=by
 have hk:k < l.length:=by exact ZfU
 rcases h.2 with ⟨_,h0⟩|⟨g,cap,cur,rfl,hb,h2,hn,hm,hs,ht⟩
 ·omega
 ·have hlt:g < w.heap.size:=by exact ZfJ
  refine⟨g,cap,rfl,hb,hlt,λ r u hu=>?_⟩;have h1:=xI hf l k x ho r u hu;rw[<- ht] at h1
  have Kx:cur[k*size+r]?=some u:=by
   rw[getElem?_take] at h1;split at h1
   ·simpa using h1
   ·cases h1
  unfold World.cell?;simp[h2,Kx]
theorem _root_.Go.Proofs.YtndgjggokjickaaGreatDoor.aH.form (h:aH f e size w base v l):∃A c,v=.slice A l.length c:=by obtain⟨A,c,hv,_⟩:=h.reads;exact⟨A,c,hv⟩
end
structure Ex where
 op:Int
 v:Val
 name:ByteArray
 width:Int
 A:Option Addr
 n:Nat
 c:Nat
def bF (y:Ex):List Value:=[ag y.op,ag y.v.k,af y.v.n,.string y.v.s,.string y.name,af y.width,.slice y.A y.n y.c]
def mz (y:Ex):Value:=.agg (bF y).toArray
variable{β:Type}
def RL(f:β->List Value)(size:Nat)(w:World)(S:Nat->Prop)(A:Option Addr)(l:List β):Prop:=
 l=[]\/∃b off,A=some ⟨b,off,none⟩/\S b/\∀i y j u,l[i]?=some y->(f y)[j]?=some u->w.cell? ⟨b,off+i*size+j,none⟩=some u
variable{w':World}{S S':Nat->Prop}
theorem RL.keep{f:β->List Value} {size:Nat} {w:World}  {A:Option Addr} {l:List β}(h:RL f size w S A l)(hk:∀b,S b->(∀o,w'.cell? ⟨b,o,none⟩=w.cell? ⟨b,o,none⟩)/\S' b):RL f size w' S' A l:=by
 rcases h with h |⟨b,off,h1,h2,h3⟩
 ·exact .inl h
 ·exact .inr ⟨b,off,h1,(hk b h2).2,λ i y j u hy hu=>((hk b h2).1 _).trans (h3 i y j u hy hu)⟩
mutual
def Tr.at_ (w:World)(S:Nat->Prop):Tr->Ex->Prop
 | .mk op v name width args,y=>y.op=op/\y.v=v/\y.name=name/\y.width=width/\y.n=args.length/\∃ys,RL bF 7 w S y.A ys/\Tr.aO w S args ys
def Tr.aO (w:World)(S:Nat->Prop):List Tr->List Ex->Prop
 | [],ys=>ys=[]
 | t::ts,ys=>∃y ys',ys=y::ys'/\Tr.at_ w S t y/\Tr.aO w S ts ys'
end
mutual
theorem Tr.at_.keep {w w':World} {S S':Nat->Prop}(hk:∀b,S b->(∀o,w'.cell? ⟨b,o,none⟩=w.cell? ⟨b,o,none⟩)/\S' b):∀(t:Tr) (y:Ex),t.at_ w S y->t.at_ w' S' y
 | .mk op v name width args,y,h=>by unfold Tr.at_ at h ⊢;obtain⟨h1,h2,h3,h4,h5,ys,h6,h7⟩:=h;exact⟨h1,h2,h3,h4,h5,ys,h6.keep hk,Tr.aO.keep hk args ys h7⟩
theorem Tr.aO.keep {w w':World} {S S':Nat->Prop}(hk:∀b,S b->(∀o,w'.cell? ⟨b,o,none⟩=w.cell? ⟨b,o,none⟩)/\S' b):∀(ts:List Tr) (ys:List Ex),Tr.aO w S ts ys->Tr.aO w' S' ts ys
 | [],ys,h=>by unfold Tr.aO at h ⊢;exact h
 | t::ts,ys,h=>by unfold Tr.aO at h ⊢;obtain⟨y,ys',h1,h2,h3⟩:=h;exact⟨y,ys',h1,Tr.at_.keep hk t y h2,Tr.aO.keep hk ts ys' h3⟩
end
theorem Tr.aO.length{w:World} :∀ {ts:List Tr} {ys:List Ex},Tr.aO w S ts ys->ys.length=ts.length
 | [],ys,h=>by unfold Tr.aO at h;subst h;rfl
 | t::ts,ys,h=>by unfold Tr.aO at h;obtain⟨y,ys',rfl,_,h3⟩:=h;simp[Tr.aO.length h3]
variable{y:Ex}
theorem Tr.fO{w:World}  {t:Tr} (h:t.at_ w S y):Tr.aO w S [t] [y]:=by unfold Tr.aO;exact⟨y,[],rfl,h,by unfold Tr.aO;rfl⟩
variable{u:Tr}{z:Ex}
theorem Tr.acn{w:World}  {t:Tr} (h:t.at_ w S y)(k:u.at_ w S z):Tr.aO w S [t,u] [y,z]:=by unfold Tr.aO;exact⟨y,[z],rfl,h,Tr.fO k⟩
theorem Tr.all_nil{w:World} :Tr.aO w S [] []:=by unfold Tr.aO;rfl
structure El (α:Type) where
 β:Type
 f:β->List Value
 size:Nat
 hf:∀y,(f y).length=size
 rel:World->(Nat->Prop)->α->β->Prop
 keep:∀ {w w':World} {S S':Nat->Prop} {x:α} {y:β},(∀b,S b->(∀o,w'.cell? ⟨b,o,none⟩=w.cell? ⟨b,o,none⟩)/\S' b)->rel w S x y->rel w' S' x y
inductive mC {α β:Type} (R:α->β->Prop):List α->List β->Prop
 | nil:mC R [] []
 | cons {x:α} {y:β} {l:List α} {m:List β}:R x y->mC R l m->mC R (x::l) (y::m)
variable{R R':α->β->Prop}
theorem mC.imp(h:∀x y,R x y->R' x y):∀ {l:List α} {m:List β},mC R l m->mC R' l m
 | _,_,.nil=> .nil
 | _,_,.cons a b=> .cons (h _ _ a) (b.imp h)
theorem mC.len:∀ {l:List α} {m:List β},mC R l m->m.length=l.length
 | _,_,.nil=>rfl
 | _,_,.cons a b=>by simp[b.len]
theorem mC.append:∀ {l l':List α} {m m':List β},mC R l m->mC R l' m'->mC R (l++l') (m++m')
 | _,_,_,_,.nil,k=>k
 | _,_,_,_,.cons a b,k=> .cons a (b.append k)
variable{x:α}
theorem mC.one{y:β}(h:R x y):mC R [x] [y]:=.cons h .nil
def El.lies(E:El α)(w:World)(S:Nat->Prop)(A:Option Addr)(n:Nat)(l:List α):Prop:=n=l.length/\∃ys,RL E.f E.size w S A ys/\mC (E.rel w S) l ys
variable{E:El α}
theorem El.lies.keep{w:World}  {A:Option Addr} {n:Nat} {l:List α}(h:E.lies w S A n l)(hk:∀b,S b->(∀o,w'.cell? ⟨b,o,none⟩=w.cell? ⟨b,o,none⟩)/\S' b):E.lies w' S' A n l:=by obtain⟨h1,ys,h2,h3⟩:=h;exact⟨h1,ys,h2.keep hk,h3.imp λ x y=>E.keep hk⟩
theorem El.ZG(E:El α)(w:World)(S:Nat->Prop):E.lies w S none 0 []:=⟨rfl,[],.inl rfl,.nil⟩
def IP:El Tr:=⟨Ex,bF,7,λ _=>rfl,Tr.at_,λ hk h=>Tr.at_.keep hk _ _ h⟩
def rb:El (Tr×ByteArray):=⟨Ex×ByteArray,λ y=>bF y.1++ [.string y.2],8,λ _=>rfl,λ w S x y=>x.1.at_ w S y.1/\y.2=x.2,λ hk h=>⟨Tr.at_.keep hk _ _ h.1,h.2⟩⟩
def sF:El (Tr×Bool):=⟨Ex×Bool,λ y=>bF y.1++ [.bool y.2],8,λ _=>rfl,λ w S x y=>x.1.at_ w S y.1/\y.2=x.2,λ hk h=>⟨Tr.at_.keep hk _ _ h.1,h.2⟩⟩
def Sz:El Int:=⟨Int,λ y=> [af y],1,λ _=>rfl,λ _ _ x y=>y=x,λ _ h=>h⟩
def jo (B:Nat)(w:World):Nat->Prop:=λ b=>B<=b/\b < w.heap.size
theorem cell_of_heap{w:World} {b:Nat}(h:w'.heap[b]?=w.heap[b]?)(o:Nat):w'.cell? ⟨b,o,none⟩=w.cell? ⟨b,o,none⟩:=by unfold World.cell?;simp only[h]
variable{g:Nat}
theorem lK{w:World}(h:w.grownBy w' (some g))(hg:g < B):∀b,jo B w b->(∀o,w'.cell? ⟨b,o,none⟩=w.cell? ⟨b,o,none⟩)/\jo B w' b:=λ b hb=>
 ⟨cell_of_heap (h.block b hb.2 (λ e=>by injection e with e;have:=hb.1;omega)),hb.1,Nat.lt_of_lt_of_le hb.2 h.size⟩
theorem iU{w:World}(h:aj w w'):∀b,jo B w b->(∀o,w'.cell? ⟨b,o,none⟩=w.cell? ⟨b,o,none⟩)/\jo B w' b:=λ b hb=>
 ⟨cell_of_heap (h.block b hb.2),hb.1,Nat.lt_of_lt_of_le hb.2 h.size⟩
variable{q:Nat}
theorem sG{w:World}(hq:q < B)(i:Nat)(u:Value):∀b,jo B w b->(∀o,(w.setCell ⟨q,i,none⟩ u).cell? ⟨b,o,none⟩=w.cell? ⟨b,o,none⟩)/\jo B (w.setCell ⟨q,i,none⟩ u) b:=λ b hb=>
 ⟨cell_of_heap (Below.heap_setCell w ⟨q,i,none⟩ u b (by have:=hb.1;simp;omega)),hb.1,by simpa [World.setCell] using hb.2⟩
variable{B':Nat}
theorem jf{w:World}(h:B'<=B):∀b,jo B w b->(∀o,w.cell? ⟨b,o,none⟩=w.cell? ⟨b,o,none⟩)/\jo B' w b:=λ b hb=>⟨λ _=>rfl,Nat.le_trans h hb.1,hb.2⟩
section
variable {B B' g q:Nat} {w w':World} {t:Tr} {y:Ex}
theorem Tr.at_.grown (h:t.at_ w (jo B w) y)(hg:w.grownBy w' (some g))(hB:g < B):t.at_ w' (jo B w') y:=Tr.at_.keep (lK hg hB) t y h
theorem Tr.at_.later (h:t.at_ w (jo B w) y)(hb:aj w w'):t.at_ w' (jo B w') y:=Tr.at_.keep (iU hb) t y h
theorem Tr.at_.set (h:t.at_ w (jo B w) y)(hq:q < B)(i:Nat)(u:Value):t.at_ (w.setCell ⟨q,i,none⟩ u) (jo B (w.setCell ⟨q,i,none⟩ u)) y:=Tr.at_.keep (sG hq i u) t y h
theorem Tr.at_.more (h:t.at_ w (jo B w) y)(hB:B'<=B):t.at_ w (jo B' w) y:=Tr.at_.keep (jf hB) t y h
end
section
variable {α:Type} {E:El α} {B B' g q:Nat} {w w':World} {A:Option Addr} {n:Nat} {l:List α}
theorem El.lies.more (h:E.lies w (jo B w) A n l)(hB:B'<=B):E.lies w (jo B' w) A n l:=h.keep (jf hB)
end
def Bx (B q:Nat)(w:World):Nat->Prop:=λ b=>B<=b/\b < w.heap.size/\b≠q
section
variable {B B' g q:Nat} {w w':World} {t:Tr} {y:Ex}
theorem vT (h:w.grownBy w' (some g))(hg:g < B):∀b,Bx B q w b->(∀o,w'.cell? ⟨b,o,none⟩=w.cell? ⟨b,o,none⟩)/\Bx B q w' b:=λ b hb=>
 ⟨cell_of_heap (h.block b hb.2.1 (λ e=>by injection e with e;have:=hb.1;omega)),hb.1,Nat.lt_of_lt_of_le hb.2.1 h.size,hb.2.2⟩
theorem BU (h:aj w w'):∀b,Bx B q w b->(∀o,w'.cell? ⟨b,o,none⟩=w.cell? ⟨b,o,none⟩)/\Bx B q w' b:=λ b hb=>
 ⟨cell_of_heap (h.block b hb.2.1),hb.1,Nat.lt_of_lt_of_le hb.2.1 h.size,hb.2.2⟩
theorem ZH (i:Nat)(u:Value):∀b,Bx B q w b->(∀o,(w.setCell ⟨q,i,none⟩ u).cell? ⟨b,o,none⟩=w.cell? ⟨b,o,none⟩)/\Bx B q (w.setCell ⟨q,i,none⟩ u) b:=λ b hb=>
 ⟨cell_of_heap (Below.heap_setCell w ⟨q,i,none⟩ u b (λ e=>hb.2.2 e)),hb.1,by simpa [World.setCell] using hb.2.1,hb.2.2⟩
theorem Pp (hB:B'<=B):∀b,Bx B q w b->(∀o,w.cell? ⟨b,o,none⟩=w.cell? ⟨b,o,none⟩)/\jo B' w b:=λ b hb=>⟨λ _=>rfl,Nat.le_trans hB hb.1,hb.2.1⟩
theorem Pq (o:Obj)(hB:B'<=B):∀b,jo B w b->(∀i,(w.alloc o).cell? ⟨b,i,none⟩=w.cell? ⟨b,i,none⟩)/\Bx B' w.heap.size (w.alloc o) b:=λ b hb=>
 ⟨cell_of_heap (Below.heap_alloc w o b hb.2),Nat.le_trans hB hb.1,by have:=hb.2;simp;omega,by have:=hb.2;omega⟩
theorem amh (hq:q < B)(hB:B'<=B):∀b,jo B w b->(∀i,w.cell? ⟨b,i,none⟩=w.cell? ⟨b,i,none⟩)/\Bx B' q w b:=λ b hb=>
 ⟨λ _=>rfl,Nat.le_trans hB hb.1,hb.2,by have:=hb.1;omega⟩
end
variable{G:Nat}{ys:List β}
theorem Pr{f:β->List Value} {size:Nat}(hf:∀x,(f x).length=size) {w:World}   {T:TypeId} (h:aB w G T (ys.flatMap f).toArray)(hS:S G):RL f size w S (some ⟨G,0,none⟩) ys:=by refine .inr ⟨G,0,rfl,hS,λ i y j u hy hu=>?_⟩;have:=xI hf ys i y hy j u hu;have hc:=h.cell (i*size+j);rw[Nat.zero_add,hc];exact ZeZ
theorem uj (y:Ex):(bF y).length=7:=rfl
def uk:Val:=⟨0,0,⟨#[]⟩⟩
def opY (op:Int)(G n:Nat):Ex:=⟨op,uk,⟨#[]⟩,0,some ⟨G,0,none⟩,n,n⟩
variable{x2:Tr}{y2:Ex}
theorem ahu{w:World}   {T:TypeId} {x:Tr} (op:Int)(h:aB w G T (bF y++bF y2).toArray)(hS:S G)(hx:x.at_ w S y)(hx2:x2.at_ w S y2):(Av op [x,x2]).at_ w S (opY op G 2):=by unfold Av Tr.at_;exact⟨rfl,rfl,rfl,rfl,rfl,[y,y2],Pr uj Tah hS,Tr.acn hx hx2⟩
theorem IQ (w:World)(S:Nat->Prop)(v:Val):(tx v).at_ w S ⟨1,v,⟨#[]⟩,0,none,0,0⟩:=by unfold tx Tr.at_;exact ZfX
theorem BV (w:World)(S:Nat->Prop)(n:ByteArray):(ui n).at_ w S ⟨2,uk,n,0,none,0,0⟩:=by unfold ui Tr.at_;exact ZfX
theorem ahv (w:World)(S:Nat->Prop)(op:Int):(Av op []).at_ w S ⟨op,uk,⟨#[]⟩,0,none,0,0⟩:=by unfold Av Tr.at_;exact ZfX
inductive cg where
 | good (l:dI)
 | bad (n:Nat)
def cg.left:cg->Nat
 | .good l=>l.length
 | .bad n=>n
def cg.gT:cg->Bool
 | .good _=>true
 | .bad _=>false
def cg.words:cg->dI
 | .good l=>l
 | .bad _=> []
def dr(p:Ps α):cg->cg
 | .bad n=> .bad n
 | .good l=>match p l with
   | .ok (_,r)=> .good r
   | .error n=> .bad n
def kr(p:Ps α):cg->α->Prop
 | .bad _,_=>True
 | .good l,x=>match p l with
   | .ok (y,_)=>x=y
   | .error _=>True
variable{σ:cg}
theorem UW{p:Ps α} {f:α->Ps β}  (h:kr p σ x):dr (p >>= f) σ=dr (f x) (dr p σ):=by
 match σ with
 | .bad n=>rfl
 | .good l=>
   have ara:∀l,(p>>=f) l=match p l with | .error n=>.error n | .ok (x,r)=>f x r:=λ _=>rfl
   simp only[dr,kr,ara] at h ⊢
   cases e:p l with
   | error n=>rfl
   | ok y=>obtain⟨y,r⟩:=y;rw[e] at h;simp only at h;subst h;rfl
theorem UY(x:α)(σ:cg):dr (pure x:Ps α) σ=σ:=by cases σ <;> rfl
theorem FQ(p:Ps α)(n:Nat)(x:α):kr p (.bad n) x:=trivial
def cg.head (s:List UInt8)(σ:cg):Bool:=dJ s σ.words
theorem Lv (s:List UInt8)(σ:cg):dr (may s) σ=if σ.head s then .good σ.words.tail else σ:=by
 match σ with
 | .bad n=>rfl
 | .good l=>simp only[dr,may,cg.head,cg.words];exact Zho
theorem FT (s:List UInt8)(σ:cg):dr (must s) σ=if σ.head s then .good σ.words.tail else .bad σ.left:=by
 match σ with
 | .bad n=>rfl
 | .good l=>simp only[dr,must,cg.head,cg.words,cg.left];exact Zho
theorem Pt (p:Ps Unit)(σ:cg):kr p σ ():=by
 match σ with
 | .bad n=>trivial
 | .good l=>simp only[kr];split <;> trivial
def cg.of (W:dI):cg->Prop
 | .good l=>l <:+ W/\yS l
 | .bad n=>0 < n/\n<=W.length
variable{W:dI}
theorem cg.Pu(h:σ.of W):0 < σ.left/\σ.left<=W.length:=by
 match σ with
 | .bad n=>exact h
 | .good l=>exact⟨h.2.pos,h.1.length_le⟩
theorem cg.of_next{l:dI}(h:(cg.good l).of W):∃t r,l=t::r/\W[W.length - l.length]?=some t:=by
 obtain⟨⟨b,hb⟩,h2⟩:=h
 match l,h2.pos with
 | t::r,_=>refine⟨t,r,rfl,?_⟩;rw[<- hb,length_append,Nat.add_sub_cancel,getElem?_append_right (Nat.le_refl _),Nat.sub_self];rfl
def ib (p:UInt8->Bool)(l:List UInt8)(k:Nat):Nat:=k+((l.drop k).takeWhile p).length
theorem aco (p:UInt8->Bool)(l:List UInt8)(k:Nat)(hk:k<=l.length):ib p l k<=l.length:=by have:=(takeWhile_sublist (p:=p) (l:=l.drop k)).length_le;simp only[length_drop] at this;unfold ib;omega
theorem eU (s:ByteArray)(k:Nat)(hk:k < s.size):s.data.toList[k]?=some s[k]:=by rw[getElem?_eq_getElem Ta1];simp[ByteArray.getElem_eq_getElem_data]
variable{l:List UInt8}
theorem cH{k:Nat} {c:UInt8}(h:l[k]?=some c):l.drop k=c::l.drop (k+1):=by
 have hk:k < l.length:=by
  rcases Nat.lt_or_ge k l.length with h' | h'
  ·exact h'
  ·rw[getElem?_eq_none h'] at h;cases h
 rw[drop_eq_getElem_cons hk];rw[getElem?_eq_getElem hk] at h;injection h with h;rw[h]
theorem BW{p:UInt8->Bool}  {k:Nat} {c:UInt8}(h:l[k]?=some c)(hp:p c=true):ib p l k=ib p l (k+1):=by unfold ib;rw[cH h,takeWhile_cons,if_pos hp,length_cons];omega
theorem SB{p:UInt8->Bool}  {k:Nat} {c:UInt8}(h:l[k]?=some c)(hp:p c=false):ib p l k=k:=by unfold ib;rw[cH h,takeWhile_cons,if_neg (by rw[hp];decide)];rfl
theorem Lx{p:UInt8->Bool}  {k:Nat}(h:l.length<=k):ib p l k=k:=by unfold ib;rw[drop_eq_nil_of_le h];rfl
theorem SC (p:UInt8->Bool):∀r:List UInt8,r.drop (r.takeWhile p).length=r.dropWhile p
 | []=>rfl
 | c::r=>by
   rw[takeWhile_cons,dropWhile_cons];split
   ·simpa using SC p r
   ·rfl
theorem acp (p:UInt8->Bool)(r:List UInt8):r.take (r.takeWhile p).length=r.takeWhile p:=by
 induction r with
 | nil=>rfl
 | cons c r ih=>
   rw[takeWhile_cons];split
   ·simpa using ih
   ·rfl
theorem BX (p:UInt8->Bool)(l:List UInt8)(k:Nat):l.drop (ib p l k)=(l.drop k).dropWhile p:=by unfold ib;rw[<- drop_drop,SC]
theorem Lz (p:UInt8->Bool)(l:List UInt8)(k:Nat):(l.drop k).take (ib p l k - k)=(l.drop k).takeWhile p:=by unfold ib;rw[Nat.add_sub_cancel_left,acp]
theorem kt:∀(b:Bool) (r:List UInt8),cw b r <:+ r
 | _,[]=>by simp[cw]
 | true,c::r=>by
   simp only[cw];split
   ·exact(kt false r).trans (suffix_cons _ _)
   ·exact(kt true r).trans (suffix_cons _ _)
 | false,c::r=>by
   simp only[cw];split
   ·exact(kt false r).trans (suffix_cons _ _)
   ·split
    ·exact(kt true r).trans (suffix_cons _ _)
    ·exact suffix_refl _
theorem drop_suffix(h:r <:+ l):l.drop (l.length - r.length)=r:=by obtain⟨p,rfl⟩:=h;simp
theorem ZI (l:List UInt8)(c:UInt8):ly (l++ [c])=ly l*10+(c.toNat - 48):=by simp[ly]
theorem ZJ (l:List UInt8):∀v,v<=l.foldl (λ v c=>v*10+(c.toNat - 48)) v:=by
 induction l with
 | nil=>intro v;exact Nat.le_refl _
 | cons c l ih=>intro v;have:=ih (v*10+(c.toNat - 48));simp only[foldl_cons];omega
theorem SD{p:UInt8->Bool}(l:List UInt8):∀c∈l.takeWhile p,p c=true:=λ c hc=>List.all_eq_true.1 (all_takeWhile (p:=p) (l:=l)) c hc
def ami (f:FuncId)(p:UInt8->Bool):Prop:=∀(c:UInt8) (W:World),ar f #[ag (c.toNat:Int)] W λ e w'=>e=.returned (.bool (p c))/\W=w'
theorem mb{a b:Bool}(h:a=b):Ending.returned (.bool a)=.returned (.bool b):=by rw[h]
theorem mS{k:IntKind} {a b:Int}(h:a=b):Ending.returned (.int k a)=.returned (.int k b):=by rw[h]
theorem Pv (c:UInt8):fM c=((decide ((97:Int)<=c.toNat)&& decide ((c.toNat:Int)<=122))||(decide ((65:Int)<=c.toNat)&& decide ((c.toNat:Int)<=90))||((c.toNat:Int)==95)):=by rw[Bool.eq_iff_iff];simp only[fM,UInt8.le_iff_toNat_le,<- UInt8.toNat_inj,Bool.or_eq_true,Bool.and_eq_true,decide_eq_true_eq,beq_iff_eq];simp;omega
theorem UZ (c:UInt8):bC c=(decide ((48:Int)<=c.toNat)&& decide ((c.toNat:Int)<=57)):=by rw[Bool.eq_iff_iff];simp only[bC,UInt8.le_iff_toNat_le,Bool.and_eq_true,decide_eq_true_eq];simp;omega
theorem ahw (c:UInt8)(k:UInt8):(c==k)=((c.toNat:Int)==(k.toNat:Int)):=by rw[Bool.eq_iff_iff];simp[<- UInt8.toNat_inj];omega
theorem xJ (c:UInt8):qW c=(((c.toNat:Int)==32)||((c.toNat:Int)==9)||((c.toNat:Int)==10)||((c.toNat:Int)==13)):=by simp only[qW,ahw];rfl
theorem bO{w:World}  {t:TypeId} {a b c d:Value}(h:aB w q t #[a,b,c,d]):
  w.cell? ⟨q,0,none⟩=some a/\w.cell? ⟨q,1,none⟩=some b/\w.cell? ⟨q,2,none⟩=some c/\w.cell? ⟨q,3,none⟩=some d/\w.frozen? ⟨q,0,none⟩=false/\w.frozen? ⟨q,1,none⟩=false/\w.frozen? ⟨q,2,none⟩=false/\w.frozen? ⟨q,3,none⟩=false:=
 ⟨h.cell 0,h.cell 1,h.cell 2,h.cell 3,h.frozen 0,h.frozen 1,h.frozen 2,h.frozen 3⟩
theorem pj (s:ByteArray)(a b:Nat):(s.extract a b).data.toList=(s.data.toList.take b).drop a:=by rw[ByteArray.data_extract,Array.toList_extract,extract_eq_take_drop,drop_take]
def fH (s:ByteArray)(a:Nat):Nat:=s.size - (cw false (s.data.toList.drop a)).length
theorem mU (s:ByteArray)(a:Nat):s.data.toList.drop (fH s a)=cw false (s.data.toList.drop a):=by have h:cw false (s.data.toList.drop a)<:+ s.data.toList:=(kt _ _).trans (List.drop_suffix _ _);have:=drop_suffix h;simpa [fH] using this
theorem xK (s:ByteArray)(a:Nat):fH s a<=s.size:=Nat.sub_le _ _
theorem Vd(s:ByteArray) {a b:Nat}(h:cw false (s.data.toList.drop a)=cw false (s.data.toList.drop b)):fH s a=fH s b:=by unfold fH;rw[h]
theorem mV (p:UInt8->Bool)(s:ByteArray)(k:Nat):(s.extract k (ib p s.data.toList k)).data.toList=(s.data.toList.drop k).takeWhile p:=by rw[pj,<- Lz,drop_take]
theorem acr (p:UInt8->Bool)(l:List UInt8)(k:Nat):ib p l k - k=((l.drop k).takeWhile p).length:=by unfold ib;omega
theorem vU(p:UInt8->Bool)(s:ByteArray) {k:Nat}(hk:k<=s.size):s.size - ((s.data.toList.drop k).dropWhile p).length=ib p s.data.toList k:=by rw[<- BX,length_drop];have:=aco p s.data.toList k Ta1;simp at this ⊢;omega
def more (acc:List UInt8)(x:Option (List UInt8×List UInt8)):Option (List UInt8×List UInt8):=x.map λ y=>(acc++y.1,y.2)
theorem ZK (x:Option (List UInt8×List UInt8)):more [] x=x:=by cases x <;> rfl
theorem Pw{c:UInt8}(h:c≠39)(r acc:List UInt8):more acc (fN (c::r))=more (acc++ [c]) (fN r):=by
 cases r with
 | nil=>simp[fN,h,more]
 | cons d r=>simp only[fN,if_neg h,more];cases fN (d::r)<;> simp
theorem ZL (r acc:List UInt8):more acc (fN (39::39::r))=more (acc++ [39]) (fN r):=by simp only[fN,more,if_true];cases fN r <;> simp
theorem LB(h:r.head?≠some 39)(acc:List UInt8):more acc (fN (39::r))=some (acc,r):=by
 cases r with
 | nil=>simp[fN,more]
 | cons d r=>
   have:d≠39:=λ e=>h (by rw[e];rfl)
   simp[fN,this,more]
theorem BZ (w:World)(a b:Nat):(w.drewN a).drewN b=w.drewN (a+b):=by simp[World.drewN,Nat.add_assoc]
theorem acs{i:Nat}(hi:i < 15):∃x,signs[i]?=some x/\signs.drop i=x::signs.drop (i+1)/\1<=x.length/\x.length<=2:=by
 have key:∀i,i < 15->∃x,signs[i]?=some x/\1<=x.length/\x.length<=2:=by
  intro i hi
  match i,hi with
  | 0,_ | 1,_ | 2,_ | 3,_ | 4,_ | 5,_ | 6,_ | 7,_ | 8,_ | 9,_ | 10,_ | 11,_ | 12,_ | 13,_ | 14,_=>exact⟨_,rfl,by decide,by decide⟩
  | n+15,h=>omega
 obtain⟨x,h1,h2,h3⟩:=key i hi;refine⟨x,h1,?_,h2,h3⟩;have hlt:i < signs.length:=hi;exact ZfV
theorem SE:nE.length=27:=by decide+kernel
theorem ahx{i:Nat}(hi:i < 27):∃x,nE[i]?=some x/\nE.take (i+1)=nE.take i++ [x]/\(nE.take i).contains x=false:=by
 have hlt:i < nE.length:=by rw[SE];exact hi
 refine⟨nE[i],getElem?_eq_getElem hlt,by rw[take_succ_eq_append_getElem hlt],?_⟩;have key:(List.range 27).all (λ i=> !(nE.take i).contains (nE.getD i []))=true:=by decide+kernel
 have:=List.all_eq_true.1 key i (List.mem_range.2 hi);rw[getD_eq_getElem?_getD,getElem?_eq_getElem hlt] at this;exact ZeZ
theorem Ve (c:UInt8):(IE c=true/\decide ((65:Int)<=c.toNat)=true/\decide ((c.toNat:Int)<=90)=true)\/(IE c=false/\decide ((65:Int)<=c.toNat)=true/\decide ((c.toNat:Int)<=90)=false)\/(IE c=false/\decide ((65:Int)<=c.toNat)=false):=by
 have e:IE c=(decide ((65:Int)<=c.toNat)&& decide ((c.toNat:Int)<=90)):=by rw[Bool.eq_iff_iff];simp only[IE,UInt8.le_iff_toNat_le,Bool.and_eq_true,decide_eq_true_eq];simp;omega
 rw[e];by_cases h1:(65:Int)<=c.toNat <;> by_cases h2:(c.toNat:Int)<=90 <;> simp[h1,h2]
def ZM (b:Bool)(w:World)(e:Ending)(w':World):Prop:=e=.returned (.bool b)/\aj w w'
theorem ee:ami 174 fM:=by intro c W;rw[Pv];have h1:=c.toNat_lt;generalize c.toNat=n at*;go_enter Tryz.func174,Tryz.ntmps174;exact Zd4
theorem eK:ami 175 bC:=by intro c W;rw[UZ];have h1:=c.toNat_lt;generalize c.toNat=n at*;go_enter Tryz.func175,Tryz.ntmps175;exact Zd4
theorem Eu (w:World):ar 198 #[] w λ e w'=>e=.returned (aI w.heap.size 27 27)/\w'=w.alloc (.cells (nE.map λ l=>Value.string ⟨l.toArray⟩).toArray 9):=by go_enter Tryz.func198,Tryz.ntmps198;exact Zc6
theorem ZN{i:Nat} {x:List UInt8}(h1:nE[i]?=some x):nE.drop i=x::nE.drop (i+1):=by
 have hlt:i < nE.length:=by
  rcases Nat.lt_or_ge i nE.length with h | h
  ·exact h
  ·rw[getElem?_eq_none h] at h1;cases h1
 exact ZfV
theorem Vf (l:List UInt8):(⟨l.toArray⟩:ByteArray).toList=l:=by rw[ByteArray.toList_eq]
theorem Ev (s:ByteArray)(w:World):ar 183 #[.string s] w (ZM (tu s.data.toList) w):=by
 go_enter Tryz.func183,Tryz.ntmps183;go_wp2_with fail;refine(Eu w).mono ?_;rintro e w1 ⟨rfl,rfl⟩;have HB:=aa (aB.new w 9 (nE.map λ l=>Value.string ⟨l.toArray⟩).toArray);have b1:=ah w (.cells (nE.map λ l=>Value.string ⟨l.toArray⟩).toArray 9);generalize w.alloc (.cells (nE.map λ l=>Value.string ⟨l.toArray⟩).toArray 9)=W at*;go_wp2_with fail;go_loop [4] (λ u=>∃i:Nat,i<=27/\u=af i/\tu s.data.toList=(nE.drop i).contains s.data.toList) (λ u=>27 - (intOf u).toNat);case atStart=>exact⟨0,by omega,rfl,rfl⟩
 case round=>
  obtain⟨i,hi,rfl,hf⟩:=hrel;have H2:=aa hf;clear hf;by_cases hlt:i < 27
  ·obtain⟨x,hx,_,_⟩:=ahx hlt;have hcell:=HB.ae.cell i;have hx2:(nE.map λ l=>Value.string ⟨l.toArray⟩).toArray[i]?=some (.string ⟨x.toArray⟩):=by simp[hx]
   rw[hx2] at hcell;have HDX:=aa (ZN hx);have e0:=Vf x;have IU:=aa e0;clear hx hx2 e0;by_cases he:s.data.toList=x
   ·have HE:=aa he;have t2:(x==s.toList)=true:=by rw[ByteArray.toList_eq,he];simp
    clear he;go_wp2_with fail;go_ret;refine⟨mb ?_,b1⟩;rw[H2.ae,HDX.ae,HE.ae];simp
   ·have HE:=aa he;have t2:(x==s.toList)=false:=by rw[ByteArray.toList_eq,beq_eq_false_iff_ne];exact λ e=>he e.symm
    clear he;go_wp2_with fail;go_round
    case rel=>
     refine⟨i+1,by omega,by go_num,?_⟩;rw[H2.ae,HDX.ae,contains_cons];have:(s.data.toList==x)=false:=by simpa using HE.ae
     rw[this];rfl
    case measure=>exact Za2
  ·obtain rfl:i=27:=by omega
   go_wp2_with fail;go_ret;refine⟨mb ?_,b1⟩;rw[H2.ae,drop_eq_nil_of_le (Nat.le_of_eq SE)];rfl
theorem IV (w:World)(g:Nat)(c:UInt8)(h:aB w g 5 #[ag (c.toNat:Int)]):(convert 97 9 (aI g 1 1)).run Tryz.prog w=.ok (.string ⟨#[c]⟩) w:=by
 have:=run_convert_bytes_back (P:=Tryz.prog) w 97 9 5 ⟨g,0,none⟩ 1 [c] Tryz.underlying97 Tryz.underlying5 Tryz.underlying9 (λ j hj=>by
  have:j=0:=by simpa using hj
  subst this
  have h0:=h.cell 0
  simpa [Addr.add] using h0)
 exact ZeZ
theorem acu{c:UInt8}(h:IE c=true):(vQ c).toNat=c.toNat+32:=by unfold vQ;rw[if_pos h];simp[IE,UInt8.le_iff_toNat_le] at h;rw[UInt8.toNat_add];simp;omega
theorem SF{c:UInt8}(h:IE c=false):vQ c=c:=by unfold vQ;rw[h];rfl
theorem mf (l:List UInt8)(c:UInt8):(⟨l.toArray⟩:ByteArray)++⟨#[c]⟩=⟨(l++ [c]).toArray⟩:=by apply ByteArray.ext;simp
theorem FU (s:ByteArray)(w:World)(hs:s.size<=4294967280):ar 176 #[.string s] w λ e w'=>e=.returned (.string ⟨(s.data.toList.map vQ).toArray⟩)/\aj w w':=by
 have HLEN:=aa (show s.data.toList.length=s.size by simp);go_enter Tryz.func176,Tryz.ntmps176;go_wp2_with fail;go_loopw [3,4] (λ x u wr=>∃(i:Nat) (l:List UInt8),i<=s.size/\u=af i/\x=.string ⟨l.toArray⟩/\l.length=i/\s.data.toList.map vQ=l++(s.data.toList.drop i).map vQ/\aj w wr) (λ _ u _=>s.size - (intOf u).toNat);case atStart=>exact⟨0,[],by omega,rfl,rfl,rfl,rfl,Below.refl _ _⟩
 case round=>
  obtain⟨i,l,hi,rfl,rfl,hl,hm,hb⟩:=hrel;have HM:=aa hm;have hl2:l.length<=s.size:=by omega
  have HL:=aa hl;have zP:=aa (show l.length<=s.size by omega);clear hm hl;by_cases hlt:i < s.size
  ·have HD:=aa (cH (eU s i hlt));rcases Ve s[i] with ⟨hc,t1,t2⟩|⟨hc,t1,t2⟩|⟨hc,t1⟩
   ·have LC:=acu hc;have hn:s[i].toNat<=90:=by have:=of_decide_eq_true t2;omega
    have hr:=IV _ _ (vQ s[i]) (aB.new wr 5 #[ag ((vQ s[i]).toNat:Int)]);rw[LC] at hr;rw[show((s[i].toNat+32:Nat):Int)=(s[i].toNat:Int)+32 from rfl] at hr;have um:=aa LC;clear LC hc;go_wp2_with fail;go_roundw;case rel=>refine⟨i+1,l++ [vQ s[i]],by omega,by go_num,by rw[mf],by rw[length_append,HL.ae];rfl,?_,hb.trans ((ah wr _).mono hb.size)⟩;rw[HM.ae,HD.ae];simp
    case measure=>exact Za2
   ·exact Zck
   ·exact Zck
  ·go_wp2_with fail;go_ret;refine⟨?_,hb⟩;rw[HM.ae,drop_eq_nil_of_le Tap];simp
theorem Ca{s:ByteArray} {a b:Nat}(h:cw false (s.data.toList.drop a)=cw false (s.data.toList.drop b)):fH s a=fH s b:=Vd s h
theorem sH{s:ByteArray} {a:Nat}(ha:a<=s.size)(h:cw false (s.data.toList.drop a)=s.data.toList.drop a):fH s a=a:=by unfold fH;rw[h,length_drop];simp;omega
theorem zij.Kcq(h:p:=by rintro⟨_,h⟩;rw[IW.ae] at h;exact H46.ae Tah):p:=h
theorem zik.Kcq(h:p:=by rintro⟨_,h⟩;rw[drop_eq_nil_of_le Tap] at h;simp at h):p:=h
theorem zil.Kcq(h:p:=by rintro⟨h,_⟩;exact H45.ae h):p:=h
theorem FV (s:ByteArray)(at_:Nat)(w:World)(ha:at_<=s.size)(hs:s.size<=4294967280):ar 131 #[.string s,af at_] w λ e w'=>e=.returned (af (fH s at_))/\w=w':=by
 have HLEN:=aa (show s.data.toList.length=s.size by simp);go_enter Tryz.func131,Tryz.ntmps131;go_wp2_with fail;go_loop [1] (λ u=>∃i:Nat,i<=s.size/\u=af i/\fH s at_=fH s i) (λ u=>s.size - (intOf u).toNat);case atStart=>exact⟨at_,ha,rfl,rfl⟩
 case round=>
  obtain⟨i,hi,rfl,hf⟩:=hrel;have H2:=aa hf;clear hf;by_cases hlt:i < s.size
  ·have HD:=aa (cH (eU s i hlt));cases hb:qW s[i]
   ·have Ay:s[i]=45\/s[i]≠45:=by by_cases h:s[i]=45 <;> simp[h]
    rw[xJ] at hb;simp only[Bool.or_eq_false_iff] at hb;obtain⟨⟨⟨b1,b2⟩,b3⟩,b4⟩:=hb;have HB:=aa (show qW s[i]=false by rw[xJ,b1,b2,b3,b4];rfl);rcases Ay with Ay | Ay
    ·have t1:(((s[i].toNat:Nat):Int)==45)=true:=by rw[Ay];rfl
     have t2:(((s[i].toNat:Nat):Int) != 45)=false:=by rw[Ay];rfl
     have H45:=aa Ay;clear Ay;by_cases atd:i+1 < s.size
     ·have IW:=aa (cH (eU s (i+1) atd));have n1:=decide_eq_false (show¬((s.size:Int)<=(i:Int)+1) by omega);by_cases h46:s[i+1]=45
      ·have u1:(((s[i+1].toNat:Nat):Int)==45)=true:=by rw[h46];rfl
       have u2:(((s[i+1].toNat:Nat):Int) != 45)=false:=by rw[h46];rfl
       have HC:=aa (show cw false (s.data.toList.drop i)=cw true (s.data.toList.drop i) by
        rw[HD.ae,IW.ae,h46,H45.ae]
        simp[cw,qW])
       clear h46;go_wp2_with fail;go_loop [1] (λ u=>∃k:Nat,i<=k/\k<=s.size/\u=af k/\cw false (s.data.toList.drop i)=cw true (s.data.toList.drop k)) (λ u=>s.size - (intOf u).toNat);case atStart=>exact⟨i,Nat.le_refl _,hi,rfl,HC.ae⟩
       case round=>
        obtain⟨k,Ec,hk2,rfl,hf⟩:=hrel;have HF:=aa hf;clear hf;by_cases Ak:k < s.size
        ·have HDK:=aa (cH (eU s k Ak));by_cases h10:s[k]=10
         ·have v1:(((s[k].toNat:Nat):Int)==10)=true:=by rw[h10];rfl
          have v2:(((s[k].toNat:Nat):Int) != 10)=false:=by rw[h10];rfl
          have H10:=aa h10;have hne:i≠k:=by intro e;subst e;have:=H45.ae.symm.trans h10;exact absurd this WC
          clear h10;go_wp2_with fail;go_round;case rel=>refine⟨k,hk2,rfl,?_⟩;rw[H2.ae];refine Ca ?_;rw[HF.ae,HDK.ae,H10.ae];simp[cw,qW]
          case measure=>exact Za2
         ·have v1:(((s[k].toNat:Nat):Int)==10)=false:=by rw[beq_eq_false_iff_ne];intro h;exact h10 (UInt8.toNat_inj.1 (by simpa using(by omega:s[k].toNat=10)))
          have v2:(((s[k].toNat:Nat):Int) != 10)=true:=by simpa [bne] using v1
          have H10:=aa h10;clear h10;go_wp2_with fail;go_round;case rel=>refine⟨k+1,by omega,Ak,by go_num,?_⟩;rw[HF.ae,HDK.ae,cw,if_neg H10.ae]
          case measure=>exact Za2
        ·go_wp2_with fail;go_round;case rel=>refine⟨k,hk2,rfl,?_⟩;rw[H2.ae];refine Ca ?_;rw[HF.ae,drop_eq_nil_of_le Tap];simp[cw]
         case measure=>exact Za2
      ·have u1:(((s[i+1].toNat:Nat):Int)==45)=false:=by rw[beq_eq_false_iff_ne];intro h;exact h46 (UInt8.toNat_inj.1 (by simpa using(by omega:s[i+1].toNat=45)))
       have u2:(((s[i+1].toNat:Nat):Int) != 45)=true:=by simpa [bne] using u1
       have H46:=aa h46;clear h46;open zij in exact Zhp
     ·have n1:=decide_eq_true (show((s.size:Int)<=(i:Int)+1) by omega);open zik in exact Zhp
    ·have t1:(((s[i].toNat:Nat):Int)==45)=false:=by rw[beq_eq_false_iff_ne];intro h;exact Ay (UInt8.toNat_inj.1 (by simpa using(by omega:s[i].toNat=45)))
     have t2:(((s[i].toNat:Nat):Int) != 45)=true:=by simpa [bne] using t1
     have H45:=aa Ay;clear Ay;open zil in exact Zhp
   ·have HB:=aa hb;rw[xJ] at hb;cases b1:(((s[i].toNat:Nat):Int)==32)<;> cases b2:(((s[i].toNat:Nat):Int)==9)<;> cases b3:(((s[i].toNat:Nat):Int)==10)<;> cases b4:(((s[i].toNat:Nat):Int)==13);all_goals try (exfalso;rw[b1,b2,b3,b4] at hb;exact absurd hb WC)
    all_goals
     clear hb;go_wp2_with fail;go_round;case rel=>refine⟨i+1,hlt,by go_num,?_⟩;rw[H2.ae];refine Ca ?_;rw[HD.ae,cw,if_pos HB.ae]
     case measure=>simp[intOf];omega
  ·go_wp2_with fail;go_ret;refine⟨mS ?_,rfl⟩;rw[H2.ae,sH hi];rw[drop_eq_nil_of_le Tap];rfl
theorem ZO:∀(l:List UInt8) (v:Nat),v*10 ^ l.length<=l.foldl (λ v c=>v*10+(c.toNat - 48)) v
 | [],v=>by simp
 | c::l,v=>by
   have:=ZO l (v*10+(c.toNat - 48));simp only[foldl_cons,length_cons,Nat.pow_succ];have h:v*10*10 ^ l.length<=(v*10+(c.toNat - 48))*10 ^ l.length:=Nat.mul_le_mul_right _ Tq;have e:v*(10 ^ l.length*10)=v*10*10 ^ l.length:=by rw[Nat.mul_comm (10 ^ l.length),Nat.mul_assoc]
   rw[e];omega
theorem ZP(hd:∀c∈l,bC c=true)(hl:19 < l.length)(h0:l.head?≠some 48):9223372036854775807 < ly l:=by
 match l with
 | []=>simp at hl
 | c::r=>
   have hc:=hd c mem_cons_self;simp[bC,UInt8.le_iff_toNat_le] at hc;have h48:c.toNat≠48:=λ e=>h0 (by rw[show c=48 from UInt8.toNat_inj.1 e];rfl)
   have h1:=ZO r (0*10+(c.toNat - 48));have h2:10 ^ 19<=10 ^ r.length:=Nat.pow_le_pow_right WC (by simp at hl;omega);have h3:1*10 ^ r.length<=(0*10+(c.toNat - 48))*10 ^ r.length:=Nat.mul_le_mul_right _ Tq;show _ < List.foldl _ _ _;rw[foldl_cons];have h4:(10:Nat)^ 19=10000000000000000000:=by decide
   omega
theorem ZQ{i:Nat} {c:UInt8}(h:l[i]?=some c):ly (l.take (i+1))=ly (l.take i)*10+(c.toNat - 48):=by rw[take_add_one,h];exact ZI _ _
theorem Py (l:List UInt8)(i:Nat):ly (l.take i)<=ly l:=by
 conv=>rhs;rw[<- take_append_drop i l]
 unfold ly;rw[foldl_append];exact ZJ _ _
theorem ZR{c:UInt8}(h:bC c=true):48<=c.toNat/\c.toNat<=57:=by simpa [bC,UInt8.le_iff_toNat_le] using h
def jT (q:List UInt8)(w:World)(e:Ending)(w':World):Prop:=(if vR q=true then e=.returned (.tuple #[af (ly q),.bool true])else e=.returned (.tuple #[af 0,.bool false]))/\w=w'
variable{e:Ending}
theorem Pz{q:List UInt8} {w:World} (h:vR q=false)(he:e=.returned (.tuple #[af 0,.bool false])):jT q w e w:=by unfold jT;rw[h,if_neg WC];exact⟨he,rfl⟩
theorem acv{q:List UInt8} {w:World} (h:vR q=true)(he:e=.returned (.tuple #[af (ly q),.bool true])):jT q w e w:=by unfold jT;rw[if_pos h];exact⟨he,rfl⟩
theorem yU (s:ByteArray)(w:World)(hd:∀c∈s.data.toList,bC c=true)(h0:0 < s.size)(hs:s.size<=4294967280):ar 177 #[.string s] w (jT s.data.toList w):=by
 have HLEN:=aa (show s.data.toList.length=s.size by simp);have HDG:=aa hd;have SG:s.data.toList.head?=some s[0]:=by rw[head?_eq_getElem?];exact eU s 0 h0
 have HH:=aa SG;clear hd SG;by_cases hz:1 < s.size/\s[0]=48
 ·have t1:(((s[0].toNat:Nat):Int)==48)=true:=by rw[hz.2];rfl
  have HB:=aa (show vR s.data.toList=false by
   have:¬s.data.toList.length<=1:=by rw[HLEN.ae];omega
   simp only[vR,HH.ae,hz.2,this]
   rfl)
  have hz1:=hz.1;exact Zgh
 ·by_cases amj:19 < s.size
  ·have t1:(((s[0].toNat:Nat):Int)==48)=false:=by rw[beq_eq_false_iff_ne];intro h;exact hz ⟨by omega,UInt8.toNat_inj.1 Tbj⟩
   have HB:=aa (show vR s.data.toList=false by
    have h1:=ZP HDG.ae (by rw[HLEN.ae];exact amj) (by rw[HH.ae];intro e;injection e with e;exact hz ⟨by omega,e⟩)
    have h2:¬ly s.data.toList<=9223372036854775807:=by omega
    simp only[vR,h2]
    simp)
   exact Zgh
  ·have HF:=aa (show(decide (s.data.toList.length<=1)|| !(s.data.toList.head?==some 48))=true by
    rw[HLEN.ae,HH.ae]
    by_cases h1:s.size<=1
    ·simp[h1]
    ·have:s[0]≠48:=λ e=>hz ⟨by omega,e⟩
     simp[h1,this])
   have hz2:¬(1 < s.size)\/(1 < s.size/\(((s[0].toNat:Nat):Int)==48)=false):=by
    by_cases h1:1 < s.size
    ·refine .inr ⟨h1,?_⟩;rw[beq_eq_false_iff_ne];intro h;exact hz ⟨h1,UInt8.toNat_inj.1 Tbj⟩
    ·exact .inl h1
   clear hz
   rcases hz2 with hz2 |⟨hz1,hz2⟩;all_goals
    go_enter Tryz.func177,Tryz.ntmps177;go_wp2_with fail;go_loop [4,5] (λ v u=>∃i:Nat,i<=s.size/\u=af i/\v=af (ly (s.data.toList.take i):Nat)/\ly (s.data.toList.take i)<=9223372036854775807) (λ _ u=>s.size - (intOf u).toNat);case atStart=>exact⟨0,by omega,rfl,rfl,by simp[ly]⟩
    case round=>
     obtain⟨i,hi,rfl,rfl,hv⟩:=hrel;by_cases hlt:i < s.size
     ·have HB:=aa (eU s i hlt);obtain⟨d1,d2⟩:=ZR (HDG.ae s[i] (mem_of_getElem? HB.ae));have HV:=aa (ZQ HB.ae);have Cb:=aa (Py s.data.toList (i+1));generalize Oe:ly (s.data.toList.take i)=v at*;have HVV:=aa Oe;clear Oe;by_cases LD:v*10+(s[i].toNat - 48)<=9223372036854775807
      ·have n1:=decide_eq_false (show¬((9223372036854775807 - ((s[i].toNat:Int) - 48))/ 10 <(v:Int)) by omega);go_wp2_with fail;go_round;case rel=>
        refine⟨i+1,hlt,by go_num,?_,by rw[HV.ae];exact LD⟩;rw[HV.ae];have:((v*10+(s[i].toNat - 48):Nat):Int)=(v:Int)*10+((s[i].toNat:Int) - 48):=by omega
        rw[this]
       case measure=>simp[intOf];omega
      ·have n1:=decide_eq_true (show((9223372036854775807 - ((s[i].toNat:Int) - 48))/ 10 <(v:Int)) by omega);go_wp2_with fail;go_ret2;refine Pz ?_ rfl;have h1:=Cb.ae;rw[HV.ae] at h1;have h2:¬ly s.data.toList<=9223372036854775807:=by omega
       simp only[vR,h2];simp
     ·go_wp2_with fail;go_ret2;have e1:s.data.toList.take i=s.data.toList:=take_of_length_le Tap;rw[e1] at hv ⊢;exact acv (by rw[vR,HF.ae];simpa using hv) rfl
def zQ (s:ByteArray)(at_:Nat)(w:World)(r:Except Nat (Wd×List UInt8))(e:Ending)(w':World):Prop:=
 match r with
 | .ok (d,rest)=>e=.returned (.tuple #[.agg #[ag d.k,.string ⟨d.s.toArray⟩,af d.n,af at_],af (s.size - rest.length:Nat),af 0])/\aj w w'
 | .error x=>e=.returned (.tuple #[.agg #[ag 0,au,af 0,af 0],af 0,af x])/\aj w w'
theorem vV{w:World}(h:Below B w w') (hq:B<=q)(a b c d:Value):Below B w ((((w'.setCell ⟨q,0,none⟩ a).setCell ⟨q,1,none⟩ b).setCell ⟨q,2,none⟩ c).setCell ⟨q,3,none⟩ d):=
 (((h.setCell (p:=⟨q,0,none⟩) hq a).setCell (p:=⟨q,1,none⟩) hq b).setCell (p:=⟨q,2,none⟩) hq c).setCell (p:=⟨q,3,none⟩) hq d
theorem ZT (s:ByteArray)(at_:Nat)(w:World)(ha:at_ < s.size)(hc:fM s[at_]=true)(hs:s.size<=4294967280):
  ar 132 #[.string s,af at_] w (zQ s at_ w (ia (s.data.toList.drop at_))):=by
 have hd:=cH (eU s at_ ha);have mA:ia (s.data.toList.drop at_)=if ib eP s.data.toList at_ - at_<=32 then .ok (⟨1,((s.data.toList.drop at_).takeWhile eP).map vQ,0⟩,(s.data.toList.drop at_).dropWhile eP)else .error 2:=by rw[acr,hd];simp only[ia,if_pos hc]
 generalize ia (s.data.toList.drop at_)=R at*;have HC:=aa mA;have HL0:=aa hc;have HLEN:=aa (show s.data.toList.length=s.size by simp);clear mA hd hc;go_enter Tryz.func132,Tryz.ntmps132;go_wp2_with (go_at_call 174;refine(ee s[at_] _).mono ?_;rintro e w' ⟨rfl,rfl⟩;rw[HL0.ae]);have HZ:=aa (aB.new w 172 #[ag 0,au,af 0,af 0]);have bb:=ah w (.cells #[ag 0,au,af 0,af 0] 172);have hsz:(w.alloc (.cells #[ag 0,au,af 0,af 0] 172)).heap.size=w.heap.size+1:=by simp
 generalize w.alloc (.cells #[ag 0,au,af 0,af 0] 172)=W at*;have HSZ:=aa hsz;clear hsz;go_loop [8] (λ u=>∃k:Nat,at_<=k/\k<=s.size/\u=af k/\ib eP s.data.toList at_=ib eP s.data.toList k) (λ u=>s.size - (intOf u).toNat);case atStart=>exact⟨at_,Nat.le_refl _,by omega,rfl,rfl⟩
 case round=>
  obtain⟨k,Ec,hk2,rfl,hf⟩:=hrel;have HF:=aa hf;clear hf;by_cases Ak:k < s.size
  ·have HB:=aa (eU s k Ak);cases hl:fM s[k]
   ·have HL:=aa hl;cases hd:bC s[k]
    ·have HD:=aa hd;have mK:=aa (show ib eP s.data.toList at_=k by rw[HF.ae];exact SB HB.ae (by simp[eP,hl,hd]));clear hl hd;by_cases h32:k - at_<=32
     ·have n1:=decide_eq_false (show¬(32:Int)<(k:Int) - at_ by omega);go_wp2_with (first
       |(go_at_call 174;refine(ee s[k] _).mono ?_;rintro e w' ⟨rfl,rfl⟩;rw[HL.ae])
       |(go_at_call 175;refine(eK s[k] _).mono ?_;rintro e w' ⟨rfl,rfl⟩;rw[HD.ae]))
      exact Za6
     ·have n1:=decide_eq_true (show(32:Int)<(k:Int) - at_ by omega);obtain⟨z0,z1,z2,z3,y0,y1,y2,y3⟩:=bO HZ.ae;go_wp2_with (first
       |(go_at_call 174;refine(ee s[k] _).mono ?_;rintro e w' ⟨rfl,rfl⟩;rw[HL.ae])
       |(go_at_call 175;refine(eK s[k] _).mono ?_;rintro e w' ⟨rfl,rfl⟩;rw[HD.ae]))
      exact ZeU
    ·have HD:=aa hd;have mK:=aa (show ib eP s.data.toList at_=ib eP s.data.toList (k+1) by rw[HF.ae];exact BW HB.ae (by simp[eP,hl,hd]));clear hl hd;go_wp2_with (first
      |(go_at_call 174;refine(ee s[k] _).mono ?_;rintro e w' ⟨rfl,rfl⟩;rw[HL.ae])
      |(go_at_call 175;refine(eK s[k] _).mono ?_;rintro e w' ⟨rfl,rfl⟩;rw[HD.ae]))
     exact ZdV
   ·have HL:=aa hl;have mK:=aa (show ib eP s.data.toList at_=ib eP s.data.toList (k+1) by rw[HF.ae];exact BW HB.ae (by simp[eP,hl]));clear hl;go_wp2_with (go_at_call 174;refine(ee s[k] _).mono ?_;rintro e w' ⟨rfl,rfl⟩;rw[HL.ae]);exact ZdV
  ·have mK:=aa (show ib eP s.data.toList at_=k by rw[HF.ae];exact Lx Tap);by_cases h32:k - at_<=32
   ·have n1:=decide_eq_false (show¬(32:Int)<(k:Int) - at_ by omega);go_wp2_with fail;exact Za6
   ·have n1:=decide_eq_true (show(32:Int)<(k:Int) - at_ by omega);obtain⟨z0,z1,z2,z3,y0,y1,y2,y3⟩:=bO HZ.ae;go_wp2_with fail;exact ZeU
theorem zf9.Kbz(h:p:=by rw[if_neg WC] at he;subst he;exact ZcJ):p:=h
theorem zga.Kbz(h:p:=by rw[if_pos rfl] at he;subst he;go_wp2_with (go_at_call 174;refine(ee s[k] _).mono ?_;rintro e w' ⟨rfl,rfl⟩;rw[HLB.ae]);exact Zdc):p:=h
theorem zgb.Kbz(h:p:=by
 rw[if_pos rfl] at he;subst he;go_wp2_with (go_at_call 174;refine(ee s[k] _).mono ?_;rintro e w' ⟨rfl,rfl⟩;rw[HLB.ae]);refine bodyPost_ret (v:=.tuple #[.agg #[ag 0,au,af 0,af 0],af 0,af 30]) ZbH rfl ?_
 ·rw[HR.ae];exact Zb3):p:=h
theorem zee.KaQ(h:p:=by
 cases Vg:vR ((s.data.toList.drop at_).takeWhile bC)
 ·have pS:=aa Vg;clear Vg;open zf9 in exact Zeh
 ·have pS:=aa Vg;clear Vg;cases Ed:fM s[k]
  ·have HLB:=aa Ed;have HR:=aa (show R=.ok (⟨2,[],ly ((s.data.toList.drop at_).takeWhile bC)⟩,(s.data.toList.drop at_).dropWhile bC) by
    rw[rp.ae,pS.ae,SH.ae,cH HB.ae]
    simp[Ed])
   clear Ed;open zga in exact Zeh
  ·have HLB:=aa Ed;have HR:=aa (show R=.error 30 by
    rw[rp.ae,pS.ae,SH.ae,cH HB.ae]
    simp[Ed])
   clear Ed;open zgb in exact Zeh):p:=h
theorem zef.KaQ(h:p:=by
 cases Vg:vR ((s.data.toList.drop at_).takeWhile bC)
 ·have pS:=aa Vg;clear Vg;go_wp2_with fail;refine HN.ae.mono ?_;unfold jT;rw[HE.ae,pS.ae];rintro e w1 ⟨he,rfl⟩;rw[if_neg WC] at he;subst he;exact ZcJ
 ·have pS:=aa Vg;clear Vg;have HR:=aa (show R=.ok (⟨2,[],ly ((s.data.toList.drop at_).takeWhile bC)⟩,(s.data.toList.drop at_).dropWhile bC) by
   rw[rp.ae,pS.ae,SH.ae,drop_eq_nil_of_le Tap]
   rfl)
  go_wp2_with fail;refine HN.ae.mono ?_;unfold jT;rw[HE.ae,pS.ae];rintro e w1 ⟨he,rfl⟩;rw[if_pos rfl] at he;subst he;go_wp2_with fail;exact Zdc):p:=h
theorem one_num (s:ByteArray)(at_:Nat)(w:World)(ha:at_ < s.size)(hc:fM s[at_]=false)(mA:bC s[at_]=true)(hs:s.size<=4294967280):
  ar 132 #[.string s,af at_] w (zQ s at_ w (ia (s.data.toList.drop at_))):=by
 have hd:=cH (eU s at_ ha);have Kx:ia (s.data.toList.drop at_)=if vR ((s.data.toList.drop at_).takeWhile bC)&& !(((s.data.toList.drop at_).dropWhile bC).head?.any fM)then .ok (⟨2,[],ly ((s.data.toList.drop at_).takeWhile bC)⟩,(s.data.toList.drop at_).dropWhile bC)else .error 30:=by rw[hd];simp only[ia,hc,if_pos mA];rfl
 have hq:0 <((s.data.toList.drop at_).takeWhile bC).length:=by rw[hd,takeWhile_cons,if_pos mA];simp
 generalize ia (s.data.toList.drop at_)=R at*;have rp:=aa Kx;have aml:=aa hq;have HC:=aa mA;have HL0:=aa hc;have HLEN:=aa (show s.data.toList.length=s.size by simp);clear Kx hd mA hc hq;go_enter Tryz.func132,Tryz.ntmps132;go_wp2_with (first
  |(go_at_call 174;refine(ee s[at_] _).mono ?_;rintro e w' ⟨rfl,rfl⟩;rw[HL0.ae])
  |(go_at_call 175;refine(eK s[at_] _).mono ?_;rintro e w' ⟨rfl,rfl⟩;rw[HC.ae]))
 have HZ:=aa (aB.new w 172 #[ag 0,au,af 0,af 0]);have bb:=ah w (.cells #[ag 0,au,af 0,af 0] 172);generalize w.alloc (.cells #[ag 0,au,af 0,af 0] 172)=W at*;go_loop [8] (λ u=>∃k:Nat,at_<=k/\k<=s.size/\u=af k/\ib bC s.data.toList at_=ib bC s.data.toList k) (λ u=>s.size - (intOf u).toNat);case atStart=>exact⟨at_,Nat.le_refl _,by omega,rfl,rfl⟩
 case round=>
  obtain⟨k,Ec,hk2,rfl,hf⟩:=hrel;have HF:=aa hf;clear hf;by_cases Ak:k < s.size
  ·have HB:=aa (eU s k Ak);cases hd:bC s[k]
   ·have HD:=aa hd;have mK:=aa (show ib bC s.data.toList at_=k by rw[HF.ae];exact SB HB.ae hd);clear hd;open zee in exact Zcl
   ·have HD:=aa hd;have mK:=aa (show ib bC s.data.toList at_=ib bC s.data.toList (k+1) by rw[HF.ae];exact BW HB.ae hd);clear hd;go_wp2_with (go_at_call 175;refine(eK s[k] _).mono ?_;rintro e w' ⟨rfl,rfl⟩;rw[HD.ae]);exact ZdV
  ·have mK:=aa (show ib bC s.data.toList at_=k by rw[HF.ae];exact Lx Tap);open zef in exact Zcl
theorem yV (s:ByteArray)(k:Nat)(hk:k < s.size):s.extract k (k+1)=⟨#[s[k]]⟩:=by
 have h:=pj s k (k+1)
 have h2:(s.data.toList.take (k+1)).drop k=[s[k]]:=by
  rw[drop_take,cH (eU s k hk)];have:k+1 - k=1:=by omega
  rw[this];rfl
 rw[h2] at h;apply Go.WideShapes.bytes_inj;rw[h]
theorem lz (s:ByteArray)(a b:Nat)(x y:Int)(hx:x=a)(hy:y=b)(hab:a<=b)(hb:b<=s.size)(w:World):
  (Instr.slice 9 (.string s) (some (af x)) (some (af y)) none).run Tryz.prog w=.ok (.string (s.extract a b)) w:=by subst hx hy;have:=run_slice_string (P:=Tryz.prog) (w:=w) 9 s .i64 .i64 a b Tryz.underlying9 Tq Tq Tq;exact ZeZ
theorem zfZ.Kbv(h:p:=by
 have HZ:=aa (aB.new w 172 #[ag 0,au,af 0,af 0]);have bb:=ah w (.cells #[ag 0,au,af 0,af 0] 172);generalize w.alloc (.cells #[ag 0,au,af 0,af 0] 172)=W at*;obtain⟨z0,z1,z2,z3,y0,y1,y2,y3⟩:=bO HZ.ae;clear t0;go_loop [8,11] (λ u x=>∃(k:Nat) (acc:List UInt8),k<=s.size/\acc.length<=k/\u=af k/\x=.string ⟨acc.toArray⟩/\more [] (fN (s.data.toList.drop (at_+1)))=more acc (fN (s.data.toList.drop k))) (λ u _=>s.size - (intOf u).toNat);case atStart=>exact⟨at_+1,[],ha,by simp,by go_num,rfl,rfl⟩
 case round=>
  obtain⟨k,acc,hk,acx,rfl,rfl,hf⟩:=hrel;have HF:=aa hf;clear hf;by_cases Ak:k < s.size
  ·have HB:=aa (eU s k Ak);by_cases hq:s[k]=39
   ·have HQ:=aa hq;have t1:(((s[k].toNat:Nat):Int)==39)=true:=by rw[hq];rfl
    clear hq;by_cases Ec:k+1 < s.size
    ·have eL:=aa (eU s (k+1) Ec);have n2:=decide_eq_false (show¬((s.size:Int)<=(k:Int)+1) by omega);by_cases JZ:s[k+1]=39
     ·have Vh:=aa JZ;have t2:(((s[k+1].toNat:Nat):Int)==39)=true:=by rw[JZ];rfl
      have t3:(((s[k+1].toNat:Nat):Int) != 39)=false:=by rw[JZ];rfl
      have hx:=yV s (k+1) Ec;have Az:=lz s (k+1) (k+1+1) ((k:Int)+1) ((k:Int)+1+1) Tq Tq Tq Tq W;rw[hx,JZ] at Az;clear JZ hx;go_wp2_with fail;go_round;case rel=>refine⟨k+2,acc++ [39],by omega,by simp;omega,by go_num,by rw[mf],?_⟩;rw[HF.ae,cH HB.ae,cH eL.ae,HQ.ae,Vh.ae,ZL]
      case measure=>exact Za2
     ·have t2:(((s[k+1].toNat:Nat):Int)==39)=false:=by rw[beq_eq_false_iff_ne];intro h;exact JZ (UInt8.toNat_inj.1 (by simpa using(by omega:s[k+1].toNat=39)))
      have t3:(((s[k+1].toNat:Nat):Int) != 39)=true:=by simpa [bne] using t2
      have ahB:=aa (show(s.data.toList.drop (k+1)).head?≠some 39 by rw[cH eL.ae];simpa using JZ);clear JZ;exact Zcr
    ·have n2:=decide_eq_true (show((s.size:Int)<=(k:Int)+1) by omega);have ahB:=aa (show(s.data.toList.drop (k+1)).head?≠some 39 by rw[drop_eq_nil_of_le Tap];simp);exact Zcr
   ·have HQ:=aa hq;have t1:(((s[k].toNat:Nat):Int)==39)=false:=by rw[beq_eq_false_iff_ne];intro h;exact hq (UInt8.toNat_inj.1 (by simpa using(by omega:s[k].toNat=39)))
    have Az:=lz s k (k+1) (k:Int) ((k:Int)+1) rfl Tq Tq Tq W;rw[yV s k Ak] at Az;clear hq;go_wp2_with fail;go_round;case rel=>refine⟨k+1,acc++ [s[k]],by omega,by simp;omega,by go_num,by rw[mf],?_⟩;rw[HF.ae,cH HB.ae,Pw HQ.ae]
    case measure=>exact Za2
  ·have ZV:=aa (show s.data.toList.drop k=[] by rw[drop_eq_nil_of_le Tap]);go_wp2_with fail;refine bodyPost_ret (v:=.tuple #[.agg #[ag 0,au,af 0,af 0],af 0,af 30]) ZbH rfl ?_
   ·rw[rp.ae,HF.ae,ZV.ae];exact Zb3):p:=h
theorem ZU (s:ByteArray)(at_:Nat)(w:World)(ha:at_ < s.size)(mA:fM s[at_]=false)(hc:bC s[at_]=false)(hq:s[at_]=39)(hs:s.size<=4294967280):
  ar 132 #[.string s,af at_] w (zQ s at_ w (ia (s.data.toList.drop at_))):=by
 have hd:=cH (eU s at_ ha)
 have Kx:ia (s.data.toList.drop at_)=match more [] (fN (s.data.toList.drop (at_+1)))with
   | some (t,rest)=> .ok (⟨3,t,0⟩,rest)
   | none=> .error 30:=by
  rw[ZK,hd];simp only[ia,mA,hc,if_pos hq];rfl
 generalize ia (s.data.toList.drop at_)=R at*;have t0:(((s[at_].toNat:Nat):Int)==39)=true:=by rw[hq];rfl
 open zfZ in exact Zd9
end Go.Proofs.YtndgjggokjickaaGreatDoor.R
