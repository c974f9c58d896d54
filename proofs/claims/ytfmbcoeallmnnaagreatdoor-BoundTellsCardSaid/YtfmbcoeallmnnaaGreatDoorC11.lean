/- Parts of the proof. -/
import Derived.Laws.CopyOwn
import Derived.Test.YtfmbcoeallmnnaaGreatDoorC3
namespace Go.Proofs.YtfmbcoeallmnnaaGreatDoor
open Go.RowKit
def uY (u:Nat→Value)(ch:List Nat)(vs:List Value)(i:Nat)(_:World)(v:Value):Prop:=
 match ch.idxOf? i with
 | some k=>vs[k]?=some v
 | none=>v=u i
def fu (l:List Oper):List Nat→Bool
 | a::b::r=>(match l[b]? with | some o=>eE o a | none=>false)&& fu l (b::r)
 | _=>true
def qU (P:Program)(l:List Oper)(u:Nat→Value)(ch:List Nat)(G:List Value→World→Prop)(a0:Act)(i:Nat)(o:Oper):Prop:=
 ∀ρ w vs,eX ρ→G vs w→cD l (uY u ch vs) a0.eval ρ w o (tmpsOf o)→o.guard=none∧
  match ch.idxOf? i with
  | none=>(execOp ρ o).run P w=.ok (.value (u i)) w
  | some k=>vs.length=k→mE P o ρ w fun v w'=>G (vs++ [v]) w'
def qf (P:Program)(l:List Oper)(u:Nat→Value)(ch:List Nat)(G:List Value→World→Prop)(a0:Act):List Oper→Nat→Prop
 | [],_=>True
 | o::rest,i=>qU P l u ch G a0 i o∧qf P l u ch G a0 rest (i+1)
theorem mh {P:Program} {L:List Oper} {u:Nat→Value} {ch:List Nat} {G:List Value→World→Prop} {a0:Act}:∀ {l:List Oper} {k:Nat},qf P L u ch G a0 l k→∀i o,l[i]?=some o→qU P L u ch G a0 (k+i) o
 | [],_,_,i,o,h=>by simp at h
 | x::l,k,hs,0,o,h=>by simp at h;subst h;exact hs.1
 | x::l,k,hs,i+1,o,h=>by have:=mh hs.2 i o (by simpa using h);rwa [show k+1+i=k+(i+1) by omega] at this
theorem nT {ch:List Nat} {i k:Nat}(h:ch.idxOf? i=some k):ch[k]?=some i:=by rw[List.idxOf?,List.findIdx?_eq_some_iff_getElem] at h;obtain⟨hk,h1,_⟩:=h;rw[List.getElem?_eq_getElem hk];simpa using h1
theorem nU {ch:List Nat} {i:Nat}(h:ch.idxOf? i=none):i∉ch:=by intro hm;rw[List.idxOf?,List.findIdx?_eq_none_iff] at h;have:=h i hm;simp at this
theorem CO {ch:List Nat}(hn:ch.Nodup) {i k:Nat}(h:ch[k]?=some i):ch.idxOf? i=some k:=by
 obtain⟨hk,he⟩:=List.getElem?_eq_some_iff.1 h;cases hc:ch.idxOf? i with
 | none=>exact absurd (List.mem_of_getElem? h) (nU hc)
 | some k'=>have h2:=nT hc;obtain⟨zW,WV⟩:=List.getElem?_eq_some_iff.1 h2;congr 1;exact(List.getElem_inj hn).1 (WV.trans he.symm)
theorem mi {l:List Oper}:∀ {ch:List Nat} {k a b:Nat},fu l ch=true→ch[k]?=some a→ch[k+1]?=some b→∃o,l[b]?=some o∧eE o a=true
 | [],_,_,_,_,h,_=>by simp at h
 | [x],0,_,_,_,_,h=>by simp at h
 | [x],_+1,_,_,_,h,_=>by simp at h
 | x::y::r,0,a,b,hc,h1,h2=>by
   simp at h1 h2;subst h1 h2;simp only[fu,Bool.and_eq_true] at hc;have:=hc.1;split at this
   ·rename_i o ho;exact⟨o,ho,this⟩
   ·cases this
 | x::y::r,k+1,a,b,hc,h1,h2=>by simp only[fu,Bool.and_eq_true] at hc;exact mi hc.2 (by simpa using h1) (by simpa using h2)
theorem Inv.imp {l:List Oper} {V V':Nat→World→Value→Prop} {R:World→World→Prop} {a0:Act} {w0:World} {m:Nat} {listed:Array Bool} {a:Act} {w:World}(I:Inv l V R a0 w0 m listed a w)(h:∀i w v,V i w v→V' i w v):Inv l V' R a0 w0 m listed a w:=
 ⟨I.r,I.defers,I.size,I.old,fun i o d h1 h2 h3=>h _ _ _ (I.new i o d h1 h2 h3),I.closed,I.len,I.tail⟩
theorem uZ {u:Nat→Value} {ch:List Nat} {vs:List Value}(v:Value)(i:Nat)(w:World)(x:Value)(h:uY u ch vs i w x):uY u ch (vs++ [v]) i w x:=by
 unfold uY at*;cases hk:ch.idxOf? i with
 | some k=>rw[hk] at h;simp only at h ⊢;obtain⟨hlt,_⟩:=List.getElem?_eq_some_iff.1 h;rw[List.getElem?_append_left hlt];exact h
 | none=>rw[hk] at h;exact h
section
variable {P:Program} {l zs:List Oper} {Q:Exit→Act→World→Prop} {u:Nat→Value} {ch:List Nat} {G:List Value→World→Prop} {a0:Act} {w0:World}
theorem mj {N:Nat}(vs:List Value)(aS:bR l N l 0=true)(hz:cF (l++zs) zs l.length=true) {listed:Array Bool} {a:Act} {w:World}(hf:dr (uY u ch vs) (fun a w=>wpList P (l++zs).toArray Q zs a w) l 0 a0 w)(I:Inv l (uY u ch vs) (fun _ _=>True) a0 w0 (l++zs).length listed a w)
  (h0:aD l.length listed=0):wpAny P .any (l++zs).toArray Q zs.length listed a w:=by
 have hall:=ck h0;have ha:a=fill (fun d=>a.eval (.tmp d)) l a0:=by
  have h1:a.tmps=(fill (fun d=>a.eval (.tmp d)) l a0).tmps:=by
   apply Array.ext_getElem?;intro t;by_cases ht:t < a0.tmps.size
   ·rw[iu _ _ _ _ ht];split
    ·simp[Act.eval,I.size,ht]
    ·rename_i hno;refine I.old t ?_;intro i o hi hd _;exact hno ⟨o,List.mem_of_getElem? hi,hd⟩
   ·rw[Array.getElem?_eq_none (by rw[I.size];omega),Array.getElem?_eq_none (by rw[gh];omega)]
  have h2:a.defers=(fill (fun d=>a.eval (.tmp d)) l a0).defers:=by rw[et,I.defers]
  exact mH h1 h2
 have hK:=kz (V:=uY u ch vs) (fun d=>a.eval (.tmp d)) l 0 a0 (fun i o d hi hd=>by
  rw[Nat.zero_add]
  have pA:i < l.length:=by
   rcases Nat.lt_or_ge i l.length with h' | h'
   ·exact h'
   ·rw[List.getElem?_eq_none h'] at hi;cases hi
  exact I.new i o d hi (hall i pA) hd) hf
 rw[← ha] at hK;refine ix aS hz 0 zs rfl listed a w I.len ?_ hK;intro i hi;constructor
 ·intro hl;rcases Nat.lt_or_ge i l.length with h' | h'
  ·omega
  ·rw[I.tail i h'] at hl;cases hl
 ·intro hl;exact hall i (by omega)
theorem jZ {id:Nat} {ops:List Oper}(zs:List Oper)(l:List Oper)(nA:ops=l++zs)(u:Nat→Value)(ch:List Nat)(G:List Value→World→Prop)(iy:∀vs w,G vs w→G vs w.drew)(hG:G [] w0)
  (hm:P.follows .mixedOrders=true) (aS:bR l a0.tmps.size l 0=true) (hz:cF (l++zs) zs l.length=true) (hch:fu l ch=true) (LW:ch.Nodup) (uf:ch.all (fun i=>decide (i < l.length))=true)
  (hs:qf P l u ch G a0 l 0) (hf:∀vs w,vs.length=ch.length→G vs w→dr (uY u ch vs) (fun a w=>wpList P ops.toArray Q zs a w) l 0 a0 w):(Code.region id ops.toArray true).wp P Q a0 w0:=by
 subst nA;have main:∀(fuel:Nat) (listed:Array Bool) (a:Act) (w:World) (vs:List Value),Inv l (uY u ch vs) (fun _ _=>True) a0 w0 (l++zs).length listed a w→G vs w→(∀k i,ch[k]?=some i→(listed.getD i false=true↔k < vs.length))→vs.length≤ch.length→fuel=aD l.length listed+zs.length→wpAny P .any (l++zs).toArray Q fuel listed a w:=by
  intro fuel;induction fuel with
  | zero=>
    intro listed a w vs I hg gR Tv Iw;have h0:aD l.length listed=0:=by omega
    have hz0:zs.length=0:=by omega
    have hall:=ck h0;have Qd:vs.length=ch.length:=by
     rcases Nat.lt_or_ge vs.length ch.length with h' | h'
     ·have hi:=List.getElem?_eq_getElem h';have hb:=of_decide_eq_true (List.all_eq_true.1 uf _ (List.getElem_mem h'));have:=(gR _ _ hi).1 (hall _ hb);omega
     ·omega
    have:=mj vs aS hz (hf vs w Qd hg) I h0;rwa [hz0] at this
  | succ fuel ih=>
    intro listed a w vs I hg gR Tv Iw;by_cases h0:aD l.length listed=0
    ·have hall:=ck h0;have Qd:vs.length=ch.length:=by
      rcases Nat.lt_or_ge vs.length ch.length with h' | h'
      ·have hi:=List.getElem?_eq_getElem h';have hb:=of_decide_eq_true (List.all_eq_true.1 uf _ (List.getElem_mem h'));have:=(gR _ _ hi).1 (hall _ hb);omega
      ·omega
     have:=mj vs aS hz (hf vs w Qd hg) I h0;rwa [show zs.length=fuel+1 by omega] at this
    ·obtain⟨i0,pj,Fz⟩:=fc h0;obtain⟨i,⟨hi,hu⟩,uE⟩:=least (p:=fun i=>i < l.length∧listed.getD i false=false) i0 ⟨pj,Fz⟩;have kA:∀j,j < i→listed.getD j false=true:=fun j hj=>by
      cases hc:listed.getD j false with
      | true=>rfl
      | false=>exact absurd ⟨by omega,hc⟩ (uE j hj)
     have ug:l[i]?=some l[i]:=List.getElem?_eq_getElem hi;have kB:=aO aS i _ ug;simp only[eh,Bool.and_eq_true,Nat.zero_add] at kB;have dY:i∈Region.ready .any (l++zs).toArray listed:=by
      refine iw (fI ug) ?_ fun j hj=>kA j (of_decide_eq_true (List.all_eq_true.1 kB.1.1.1 j hj))
      rw[cg (by rw[I.len];simp;omega)];exact hu
     refine⟨(fun hnil=>by rw[hnil] at dY;cases dY),fun j hj=>?_⟩;obtain⟨nI,oj,gK,hall⟩:=mem_ready.1 hj;have sV:j <(l++zs).length:=by
      rcases Nat.lt_or_ge j (l++zs).length with h' | h'
      ·exact h'
      ·rw[Array.getElem?_eq_none (by simpa using h')] at gK;cases gK
     rw[cg (by rw[I.len];exact sV)] at nI;have cO:∀k∈bZ oj,listed.getD k false=true:=fun k hk=>by obtain⟨e,he,hb,rfl⟩:=dV.1 hk;exact hall e he hb
     have yt:j < l.length:=by
      rcases Nat.lt_or_ge j l.length with h' | h'
      ·exact h'
      ·exfalso;have Cs:zs[j - l.length]?=some oj:=by
        have:(l++zs)[j]?=some oj:=by simpa using gK
        rw[List.getElem?_append_right (by omega)] at this;exact this
       have uD:=dw hz (j - l.length) oj Cs;rw[show l.length+(j - l.length)=j by omega] at uD;have hc:=dC (L:=l++zs) (fun k=>listed.getD k false=true) (by
        intro k ok hk hd e he
        rcases Nat.lt_or_ge k l.length with uF | uF
        ·rw[List.getElem?_append_left uF] at hk
         exact I.closed k ok hk hd e he
        ·rw[I.tail k uF] at hd;cases hd) j (bZ oj) uD.2 cO i (by omega)
       rw[hu] at hc;cases hc
     have oF:l[j]?=some oj:=by
      have:(l++zs)[j]?=some oj:=by simpa using gK
      rw[List.getElem?_append_left yt] at this;exact this
     have hst:=mh hs j oj oF;rw[Nat.zero_add] at hst;have En:=Inv.reads aS I oF nI cO (tmpsOf oj) (fun _ h=>h);obtain⟨hgd,hstep⟩:=hst a.eval w vs (fG a) hg En;have Jh:j < listed.size:=by rw[I.len];exact sV
     have Ax:fuel=aD l.length (listed.setIfInBounds j true)+zs.length:=by have:=eZ l.length listed j Jh yt nI;omega
     unfold wpOp;rw[gK];show if Region.wanted oj (yielded (l++zs).toArray a.tmps)=true then _ else _
     rw[if_pos (by simp[Region.wanted,hgd])];refine .inl ?_;cases wS:ch.idxOf? j with
     | none=>
       simp only[wS] at hstep;refine ej (T:=fun v w'=>v=u j∧w'=w) (cJ hstep ⟨rfl,rfl⟩) ?_;rintro v w' ⟨rfl,rfl⟩;refine ih _ _ _ vs (I.step aS (fun _ _ _ _ h _=>h) (fun _ _ _ _ _=>trivial) oF sV nI cO trivial ?_) hg ?_ Tv Ax
       ·unfold uY;simp only[wS]
       ·intro k i' hk;have hne:i'≠j:=fun e=>nU wS (e▸List.mem_of_getElem? hk)
        rw[bT _ _ _ Jh,if_neg hne];exact gR k i' hk
     | some k=>
       simp only[wS] at hstep;have CP:=nT wS;have Ow:vs.length=k:=by
        have h1:¬k < vs.length:=fun h=>by have:=(gR k j CP).2 h;rw[nI] at this;cases this
        match k,CP,h1 with
        | 0,_,h1=>omega
        | k+1,CP,h1=>
          obtain⟨Ct,_⟩:=List.getElem?_eq_some_iff.1 CP;have hp:ch[k]?=some ch[k]:=List.getElem?_eq_getElem (by omega);obtain⟨o',oG,he⟩:=mi hch hp CP;rw[oF] at oG;injection oG with oG;subst oG
          have:=(gR k _ hp).1 (cO _ (cN.1 he));omega
       refine ej (hstep Ow) ?_;intro v w' Cv;have I':=(I.imp (fun i w x h=>uZ (ch:=ch) (u:=u) v i w x h));refine ih _ _ _ (vs++ [v]) (I'.step aS (fun _ _ _ _ h _=>h) (fun _ _ _ _ _=>trivial) oF sV nI cO trivial ?_) Cv ?_ ?_ Ax
       ·unfold uY;simp only[wS];rw[← Ow];simp
       ·intro k' i' zW;rw[bT _ _ _ Jh,List.length_append,List.length_singleton];by_cases Ix:i'=j
        ·subst Ix;have:=CO LW zW;rw[wS] at this;injection this with this;simp only[if_true,true_iff];omega
        ·rw[if_neg Ix,gR k' i' zW];have hne:k'≠k:=fun e=>Ix (by rw[e,CP] at zW;injection zW with zW;exact zW.symm)
         omega
       ·obtain⟨Ct,_⟩:=List.getElem?_eq_some_iff.1 CP;simp;omega
 refine wp_region_any hm ?_;have:=main (l++zs).toArray.size (Array.replicate (l++zs).toArray.size false) a0 w0.drew [] ⟨trivial,rfl,rfl,fun _ _=>rfl,(fun i o d _ h=>by rw[aB] at h;cases h),(fun i o _ h=>by rw[aB] at h;cases h),by simp,fun i _=>aB _ _⟩ (iy _ _ hG) (fun k i _=>by rw[aB];simp) (by simp) (by
  have:aD l.length (Array.replicate (l++zs).toArray.size false)=l.length:=by
   unfold aD
   rw[List.filter_eq_self.2 (fun i _=>by rw[aB];rfl),List.length_range]
  rw[this];simp)
 exact this
end
set_option linter.unusedVariables false
def tQ (u:Nat→Value)(M:List Nat)(σ:Nat→Option Value)(i:Nat)(_:World)(v:Value):Prop:=if i∈M then σ i=some v else v=u i
def Ay (σ:Nat→Option Value)(i:Nat)(v:Value):Nat→Option Value:=fun j=>if j=i then some v else σ j
theorem iY (σ:Nat→Option Value)(i:Nat)(v:Value):Ay σ i v i=some v:=by simp[Ay]
theorem dn (σ:Nat→Option Value) {i j:Nat}(v:Value)(h:j≠i):Ay σ i v j=σ j:=by simp[Ay,h]
def Ji (P:Program)(l:List Oper)(u:Nat→Value)(M:List Nat)(G:(Nat→Option Value)→World→Prop)(a0:Act)(i:Nat)(o:Oper):Prop:=
 ∀ρ w σ,eX ρ→G σ w→cD l (tQ u M σ) a0.eval ρ w o (tmpsOf o)→(∀e∈bZ o,e∈M→(σ e).isSome=true)→(i∈M→σ i=none)→o.guard=none∧
  if i∈M then mE P o ρ w fun v w'=>G (Ay σ i v) w' else(execOp ρ o).run P w=.ok (.value (u i)) w
def yJ (P:Program)(l:List Oper)(u:Nat→Value)(M:List Nat)(G:(Nat→Option Value)→World→Prop)(a0:Act):List Oper→Nat→Prop
 | [],_=>True
 | o::rest,i=>Ji P l u M G a0 i o∧yJ P l u M G a0 rest (i+1)
theorem xx {P:Program} {L:List Oper} {u:Nat→Value} {M:List Nat} {G:(Nat→Option Value)→World→Prop} {a0:Act}:∀ {l:List Oper} {k:Nat},yJ P L u M G a0 l k→∀i o,l[i]?=some o→Ji P L u M G a0 (k+i) o
 | [],_,_,i,o,h=>by simp at h
 | x::l,k,hs,0,o,h=>by simp at h;subst h;exact hs.1
 | x::l,k,hs,i+1,o,h=>by have:=xx hs.2 i o (by simpa using h);rwa [show k+1+i=k+(i+1) by omega] at this
section
variable {P:Program} {l zs:List Oper} {Q:Exit→Act→World→Prop} {u:Nat→Value} {M:List Nat} {G:(Nat→Option Value)→World→Prop} {a0:Act} {w0:World} {V:Nat→World→Value→Prop}
theorem xy {N:Nat}(aS:bR l N l 0=true)(hz:cF (l++zs) zs l.length=true) {listed:Array Bool} {a:Act} {w:World}(hf:dr V (fun a w=>wpList P (l++zs).toArray Q zs a w) l 0 a0 w)(I:Inv l V (fun _ _=>True) a0 w0 (l++zs).length listed a w)
  (h0:aD l.length listed=0):wpAny P .any (l++zs).toArray Q zs.length listed a w:=by
 have hall:=ck h0;have ha:a=fill (fun d=>a.eval (.tmp d)) l a0:=by
  have h1:a.tmps=(fill (fun d=>a.eval (.tmp d)) l a0).tmps:=by
   apply Array.ext_getElem?;intro t;by_cases ht:t < a0.tmps.size
   ·rw[iu _ _ _ _ ht];split
    ·simp[Act.eval,I.size,ht]
    ·rename_i hno;refine I.old t ?_;intro i o hi hd _;exact hno ⟨o,List.mem_of_getElem? hi,hd⟩
   ·rw[Array.getElem?_eq_none (by rw[I.size];omega),Array.getElem?_eq_none (by rw[gh];omega)]
  have h2:a.defers=(fill (fun d=>a.eval (.tmp d)) l a0).defers:=by rw[et,I.defers]
  exact mH h1 h2
 have hK:=kz (V:=V) (fun d=>a.eval (.tmp d)) l 0 a0 (fun i o d hi hd=>by
  rw[Nat.zero_add]
  have pA:i < l.length:=by
   rcases Nat.lt_or_ge i l.length with h' | h'
   ·exact h'
   ·rw[List.getElem?_eq_none h'] at hi;cases hi
  exact I.new i o d hi (hall i pA) hd) hf
 rw[← ha] at hK;refine ix aS hz 0 zs rfl listed a w I.len ?_ hK;intro i hi;constructor
 ·intro hl;rcases Nat.lt_or_ge i l.length with h' | h'
  ·omega
  ·rw[I.tail i h'] at hl;cases hl
 ·intro hl;exact hall i (by omega)
theorem Az {id:Nat} {ops:List Oper}(zs:List Oper)(l:List Oper)(nA:ops=l++zs)(u:Nat→Value)(M:List Nat)(G:(Nat→Option Value)→World→Prop)(iy:∀σ w,G σ w→G σ w.drew)(hG:G (fun _=>none) w0)
  (hm:P.follows .mixedOrders=true) (aS:bR l a0.tmps.size l 0=true) (hz:cF (l++zs) zs l.length=true) (uf:M.all (fun i=>decide (i < l.length))=true)
  (hs:yJ P l u M G a0 l 0) (hf:∀σ w,(∀i∈M,(σ i).isSome=true)→G σ w→dr (tQ u M σ) (fun a w=>wpList P ops.toArray Q zs a w) l 0 a0 w):(Code.region id ops.toArray true).wp P Q a0 w0:=by
 subst nA;have main:∀(fuel:Nat) (listed:Array Bool) (a:Act) (w:World) (σ:Nat→Option Value),Inv l (tQ u M σ) (fun _ _=>True) a0 w0 (l++zs).length listed a w→G σ w→(∀i∈M,(listed.getD i false=true↔(σ i).isSome=true))→fuel=aD l.length listed+zs.length→wpAny P .any (l++zs).toArray Q fuel listed a w:=by
  intro fuel;induction fuel with
  | zero=>
    intro listed a w σ I hg gR Iw;have h0:aD l.length listed=0:=by omega
    have hz0:zs.length=0:=by omega
    have hall:=ck h0;have:=xy aS hz (hf σ w (fun i hi=>(gR i hi).1 (hall i (of_decide_eq_true (List.all_eq_true.1 uf i hi)))) hg) I h0;rwa [hz0] at this
  | succ fuel ih=>
    intro listed a w σ I hg gR Iw;by_cases h0:aD l.length listed=0
    ·have hall:=ck h0;have:=xy aS hz (hf σ w (fun i hi=>(gR i hi).1 (hall i (of_decide_eq_true (List.all_eq_true.1 uf i hi)))) hg) I h0;rwa [show zs.length=fuel+1 by omega] at this
    ·obtain⟨i0,pj,Fz⟩:=fc h0;obtain⟨i,⟨hi,hu⟩,uE⟩:=least (p:=fun i=>i < l.length∧listed.getD i false=false) i0 ⟨pj,Fz⟩;have kA:∀j,j < i→listed.getD j false=true:=fun j hj=>by
      cases hc:listed.getD j false with
      | true=>rfl
      | false=>exact absurd ⟨by omega,hc⟩ (uE j hj)
     have ug:l[i]?=some l[i]:=List.getElem?_eq_getElem hi;have kB:=aO aS i _ ug;simp only[eh,Bool.and_eq_true,Nat.zero_add] at kB;have dY:i∈Region.ready .any (l++zs).toArray listed:=by
      refine iw (fI ug) ?_ fun j hj=>kA j (of_decide_eq_true (List.all_eq_true.1 kB.1.1.1 j hj))
      rw[cg (by rw[I.len];simp;omega)];exact hu
     refine⟨(fun hnil=>by rw[hnil] at dY;cases dY),fun j hj=>?_⟩;obtain⟨nI,oj,gK,hall⟩:=mem_ready.1 hj;have sV:j <(l++zs).length:=by
      rcases Nat.lt_or_ge j (l++zs).length with h' | h'
      ·exact h'
      ·rw[Array.getElem?_eq_none (by simpa using h')] at gK;cases gK
     rw[cg (by rw[I.len];exact sV)] at nI;have cO:∀k∈bZ oj,listed.getD k false=true:=fun k hk=>by obtain⟨e,he,hb,rfl⟩:=dV.1 hk;exact hall e he hb
     have yt:j < l.length:=by
      rcases Nat.lt_or_ge j l.length with h' | h'
      ·exact h'
      ·exfalso;have Cs:zs[j - l.length]?=some oj:=by
        have:(l++zs)[j]?=some oj:=by simpa using gK
        rw[List.getElem?_append_right (by omega)] at this;exact this
       have uD:=dw hz (j - l.length) oj Cs;rw[show l.length+(j - l.length)=j by omega] at uD;have hc:=dC (L:=l++zs) (fun k=>listed.getD k false=true) (by
        intro k ok hk hd e he
        rcases Nat.lt_or_ge k l.length with uF | uF
        ·rw[List.getElem?_append_left uF] at hk
         exact I.closed k ok hk hd e he
        ·rw[I.tail k uF] at hd;cases hd) j (bZ oj) uD.2 cO i (by omega)
       rw[hu] at hc;cases hc
     have oF:l[j]?=some oj:=by
      have:(l++zs)[j]?=some oj:=by simpa using gK
      rw[List.getElem?_append_left yt] at this;exact this
     have hst:=xx hs j oj oF;rw[Nat.zero_add] at hst;have En:=Inv.reads aS I oF nI cO (tmpsOf oj) (fun _ h=>h);have hnone:j∈M→σ j=none:=fun Qe=>by
      cases LY:σ j with
      | none=>rfl
      | some v=>have:=(gR j Qe).2 (by rw[LY];rfl);rw[nI] at this;cases this
     obtain⟨hgd,hstep⟩:=hst a.eval w σ (fG a) hg En (fun e he I7=>(gR e I7).1 (cO e he)) hnone;have Jh:j < listed.size:=by rw[I.len];exact sV
     have Ax:fuel=aD l.length (listed.setIfInBounds j true)+zs.length:=by have:=eZ l.length listed j Jh yt nI;omega
     unfold wpOp;rw[gK];show if Region.wanted oj (yielded (l++zs).toArray a.tmps)=true then _ else _
     rw[if_pos (by simp[Region.wanted,hgd])];refine .inl ?_;by_cases Qe:j∈M
     ·rw[if_pos Qe] at hstep;refine ej hstep ?_;intro v w' Cv;have hne:∀i,i≠j→Ay σ j v i=σ i:=fun i hi=>dn σ v hi
      have I':Inv l (tQ u M (Ay σ j v)) (fun _ _=>True) a0 w0 (l++zs).length listed a w:=I.imp (fun i w x h=>by
       unfold tQ at*
       by_cases yr:i∈M
       ·rw[if_pos yr] at h ⊢
        rw[hne i (fun e=>by subst e;rw[hnone yr] at h;cases h)]
        exact h
       ·rw[if_neg yr] at h ⊢;exact h)
      refine ih _ _ _ (Ay σ j v) (I'.step aS (fun _ _ _ _ h _=>h) (fun _ _ _ _ _=>trivial) oF sV nI cO trivial ?_) Cv ?_ Ax
      ·unfold tQ;rw[if_pos Qe];exact iY σ j v
      ·intro k hk;rw[bT _ _ _ Jh];by_cases hkj:k=j
       ·subst hkj;rw[iY];simp
       ·rw[if_neg hkj,hne k hkj];exact gR k hk
     ·rw[if_neg Qe] at hstep;refine ej (T:=fun v w'=>v=u j∧w'=w) (cJ hstep ⟨rfl,rfl⟩) ?_;rintro v w' ⟨rfl,rfl⟩;refine ih _ _ _ σ (I.step aS (fun _ _ _ _ h _=>h) (fun _ _ _ _ _=>trivial) oF sV nI cO trivial ?_) hg ?_ Ax
      ·unfold tQ;rw[if_neg Qe]
      ·intro k hk;rw[bT _ _ _ Jh,if_neg (fun e:k=j=>Qe (by rw[← e];exact hk))];exact gR k hk
 refine wp_region_any hm ?_;have:=main (l++zs).toArray.size (Array.replicate (l++zs).toArray.size false) a0 w0.drew (fun _=>none) ⟨trivial,rfl,rfl,fun _ _=>rfl,(fun i o d _ h=>by rw[aB] at h;cases h),(fun i o _ h=>by rw[aB] at h;cases h),by simp,fun i _=>aB _ _⟩ (iy _ _ hG) (fun i _=>by rw[aB];simp) (by
  have:aD l.length (Array.replicate (l++zs).toArray.size false)=l.length:=by
   unfold aD
   rw[List.filter_eq_self.2 (fun i _=>by rw[aB];rfl),List.length_range]
  rw[this];simp)
 exact this
end
open Go.ChangeShapes Go.WideShapes Go.ChangeAt
structure ny where
 i:Nat
 T:TypeId
 c:Array Value
 s:Nat
 d:Array Value
def ny.now (x:ny)(B:Nat)(σ:Nat→Option Value)(w:World):Prop:=
 match σ x.i with
 | none=>σ x.s=none
 | some v=>∃g,v=.pointer (some ⟨g,0,none⟩)∧B≤g∧ah w g x.T (if (σ x.s).isSome=true then x.d else x.c)
def fw (X:List ny)(i:Nat):Bool:=X.any fun x=>x.i==i || x.s==i
def Jj (X:List ny)(CL:List Nat)(n:Nat):Bool:=
 decide (X.map (·.i)++X.map (·.s)++CL).Nodup && X.all (fun x=>decide (x.i < n))&& CL.all (fun i=>decide (i < n))
structure Qf (B n:Nat) (w0:World) (u:Nat→Value) (X:List ny) (σ:Nat→Option Value) (w:World):Prop where
 b:Below B w0 w
 now:∀x∈X,x.now B σ w
 apart:∀x∈X,∀y∈X,x.i≠y.i→∀v,σ x.i=some v→σ y.i≠some v
 u:∀i v,σ i=some v→fw X i=false→v=u i
 far:∀i,n≤i→σ i=none
def mM (P:Program)(l:List Oper)(u:Nat→Value)(X:List ny)(CL:List Nat)(a0:Act)(B:Nat)(w0:World)(i:Nat)(o:Oper):Prop:=
 o.guard=none∧
 match X.find? (fun x=>x.i==i)with
 | some x=>∀ρ w,eX ρ→(execOp ρ o).run P w=.ok (.value (.pointer (some ⟨w.heap.size,0,none⟩))) (w.alloc (.cells x.c x.T))
 | none=>match X.find? (fun x=>x.s==i)with
   | some x=>(bZ o).contains x.i=true∧∀ρ w g,eX ρ→ah w g x.T x.c→cD l (fun j _ v=>if j=x.i then v=.pointer (some ⟨g,0,none⟩)else fw X j=false→v=u j) a0.eval ρ w o (tmpsOf o)→
      ∃w',(execOp ρ o).run P w=.ok .skip w'∧ah w' g x.T x.d∧w.grownBy w' (some g)
   | none=>∀ρ w,eX ρ→Below B w0 w→cD l (fun j _ v=>fw X j=false→v=u j) a0.eval ρ w o (tmpsOf o)→
      if CL.contains i=true then mE P o ρ w fun v w'=>v=u i∧Below w.heap.size w w' else(execOp ρ o).run P w=.ok (.value (u i)) w
def qV (P:Program)(l:List Oper)(u:Nat→Value)(X:List ny)(CL:List Nat)(a0:Act)(B:Nat)(w0:World):List Oper→Nat→Prop
 | [],_=>True
 | o::rest,i=>mM P l u X CL a0 B w0 i o∧qV P l u X CL a0 B w0 rest (i+1)
theorem mN {l:List Oper} {V V':Nat→World→Value→Prop} {Em ρ:Operand→Value} {w:World} {o:Oper}(h:∀j v,V j w v→V' j w v):∀ {ts:List Tmp},cD l V Em ρ w o ts→cD l V' Em ρ w o ts
 | [],_=>trivial
 | t::ts,hr=>by
   unfold cD at hr ⊢;refine⟨?_,mN h hr.2⟩;have h1:=hr.1;cases hs:dX l o t with
   | none=>rw[hs] at h1;exact h1
   | some j=>rw[hs] at h1;exact h _ _ h1
theorem rV {V V':Nat→World→Value→Prop} {K:Act→World→Prop} {w:World}(h:∀j v,V j w v→V' j w v):∀ {l:List Oper} {i:Nat} {a:Act},dr V' K l i a w→dr V K l i a w
 | [],_,_,hf=>hf
 | o::l,i,a,hf=>by
   unfold dr at hf ⊢;cases ho:o.dst with
   | none=>rw[ho] at hf;exact rV h hf
   | some d=>rw[ho] at hf;exact fun v hv=>rV h (hf v (h _ _ hv))
theorem qg {B n:Nat} {w0 w w':World} {u:Nat→Value} {X:List ny} {σ:Nat→Option Value}(hB:B≤w0.heap.size)(h:Qf B n w0 u X σ w)(hl:Below w.heap.size w w'):Qf B n w0 u X σ w':=
 ⟨h.b.trans (hl.mono (Nat.le_trans hB h.b.size)),fun x hx=>by
   have:=h.now x hx
   unfold ny.now at this ⊢
   cases he:σ x.i with
   | none=>rw[he] at this;exact this
   | some v=>
     rw[he] at this
     obtain⟨g,h1,h2,h3⟩:=this
     exact⟨g,h1,h2,h3.later hl⟩,h.apart,h.u,h.far⟩
theorem mO {X:List ny} {x:ny}(h:x∈X):fw X x.i=true:=by unfold fw;exact List.any_eq_true.2 ⟨x,h,by simp⟩
theorem qW {X:List ny} {x:ny}(h:x∈X):fw X x.s=true:=by unfold fw;exact List.any_eq_true.2 ⟨x,h,by simp⟩
theorem tu {P:Program} {L:List Oper} {u:Nat→Value} {X:List ny} {CL:List Nat} {a0:Act} {B:Nat} {w0:World}:∀ {l:List Oper} {k:Nat},qV P L u X CL a0 B w0 l k→∀i o,l[i]?=some o→mM P L u X CL a0 B w0 (k+i) o
 | [],_,_,i,o,h=>by simp at h
 | x::l,k,hs,0,o,h=>by simp at h;subst h;exact hs.1
 | x::l,k,hs,i+1,o,h=>by have:=tu hs.2 i o (by simpa using h);rwa [show k+1+i=k+(i+1) by omega] at this
theorem xz {P:Program} {L:List Oper} {u:Nat→Value} {M:List Nat} {G:(Nat→Option Value)→World→Prop} {a0:Act}:∀(l:List Oper) (k:Nat),(∀i o,l[i]?=some o→Ji P L u M G a0 (k+i) o)→yJ P L u M G a0 l k
 | [],_,_=>trivial
 | x::l,k,h=>⟨h 0 x rfl,xz l (k+1) fun i o hi=>by
    have:=h (i+1) o (by simpa using hi)
    rwa [show k+(i+1)=k+1+i by omega] at this⟩
theorem map_inj {f:ny→Nat}:∀ {X:List ny},(X.map f).Nodup→∀x∈X,∀y∈X,f x=f y→x=y
 | [],_,x,hx,_,_,_=>by cases hx
 | a::X,h,x,hx,y,hy,e=>by
   rw[List.map_cons,List.nodup_cons] at h;rcases List.mem_cons.1 hx with rfl | hx2
   ·rcases List.mem_cons.1 hy with rfl | uj
    ·rfl
    ·exact absurd (e▸List.mem_map_of_mem uj) h.1
   ·rcases List.mem_cons.1 hy with rfl | uj
    ·exact absurd (e▸List.mem_map_of_mem hx2) h.1
    ·exact map_inj h.2 x hx2 y uj e
theorem Jk {P:Program} {o:Oper} {ρ:Operand→Value} {w:World} {T T':Value→World→Prop}(h:mE P o ρ w T)(k:∀v w',T v w'→T' v w'):mE P o ρ w T':=by
 unfold mE at h ⊢;split at h
 ·exact k _ _ h
 ·exact k _ _ h
 ·exact h.mono fun e w'' ⟨v,h1,h2⟩=>⟨v,h1,k _ _ h2⟩
 ·exact h.elim
theorem AA {X:List ny} {p:ny→Bool} {x:ny}(h:X.find? p=some x):x∈X∧p x=true:=⟨List.mem_of_find?_eq_some h,List.find?_some h⟩
theorem CQ {X:List ny} {i:Nat}(h:fw X i=true):(∃x,X.find? (fun x=>x.i==i)=some x)∨(X.find? (fun x=>x.i==i)=none∧∃x,X.find? (fun x=>x.s==i)=some x):=by
 cases h1:X.find? (fun x=>x.i==i)with
 | some x=>exact .inl ⟨x,rfl⟩
 | none=>
   refine .inr ⟨rfl,?_⟩;cases h2:X.find? (fun x=>x.s==i)with
   | some x=>exact⟨x,rfl⟩
   | none=>
     exfalso;obtain⟨x,hx,hp⟩:=List.any_eq_true.1 h;rw[List.find?_eq_none] at h1 h2;have a1:=h1 x hx;have a2:=h2 x hx;rw[Bool.or_eq_true] at hp;rcases hp with hp | hp
     ·exact a1 hp
     ·exact a2 hp
def CR (X:List ny)(CL:List Nat)(n:Nat):List Nat:=(X.map (·.i)++X.map (·.s)).filter (fun i=>decide (i < n))++CL
def tx (σ:Nat→Option Value)(i:Nat):Nat:=match σ i with | some (.pointer (some p))=>p.block | _=>0
section
variable {P:Program} {Q:Exit→Act→World→Prop} {a0:Act} {w0:World}
theorem yK {id:Nat} {ops:List Oper}(k:Nat)(u:Nat→Value)(X:List ny)(CL:List Nat)(hm:P.follows .mixedOrders=true)(aS:bR (ops.take k) a0.tmps.size (ops.take k) 0=true)(hz:cF ops (ops.drop k) (ops.take k).length=true)
  (hX:Jj X CL (ops.take k).length=true) (hs:qV P (ops.take k) u X CL a0 w0.heap.size w0 (ops.take k) 0)
  (hf:∀w (g:Nat→Nat),Below w0.heap.size w0 w→(∀x∈X,w0.heap.size≤g x.i∧ah w (g x.i) x.T (if x.s <(ops.take k).length then x.d else x.c))→(∀x∈X,∀y∈X,x.i≠y.i→g x.i≠g y.i)→
    dr (fun j _ v=>if X.any (fun x=>x.i==j)=true then v=.pointer (some ⟨g j,0,none⟩)else fw X j=false→v=u j) (fun a w=>wpList P ops.toArray Q (ops.drop k) a w) (ops.take k) 0 a0 w):
  (Code.region id ops.toArray true).wp P Q a0 w0:=by
 obtain⟨l,hl⟩:∃l,l=ops.take k:=⟨_,rfl⟩;rw[← hl] at aS hz hX hs hf;simp only[Jj,Bool.and_eq_true,decide_eq_true_eq,List.all_eq_true] at hX;obtain⟨⟨LW,WW⟩,gR⟩:=hX;have Zk:∀x∈X,∀y∈X,x.i=y.i→x=y:=map_inj (List.nodup_append.1 (List.nodup_append.1 LW).1).1;have tP:∀x∈X,∀y∈X,x.s=y.s→x=y:=map_inj (List.nodup_append.1 (List.nodup_append.1 LW).1).2.1;have pn:∀x∈X,∀y∈X,x.i≠y.s:=fun x hx y hy=>(List.nodup_append.1 (List.nodup_append.1 LW).1).2.2 x.i (List.mem_map_of_mem hx) y.s (List.mem_map_of_mem hy)
 have T1:∀i∈CL,fw X i=false:=by
  intro i hi;cases hc:fw X i with
  | false=>rfl
  | true=>
    exfalso;obtain⟨x,hx,hp⟩:=List.any_eq_true.1 hc;rw[Bool.or_eq_true,beq_iff_eq,beq_iff_eq] at hp;rcases hp with rfl | rfl
    ·exact(List.nodup_append.1 LW).2.2 x.i (List.mem_append.2 (.inl (List.mem_map_of_mem hx))) x.i hi rfl
    ·exact(List.nodup_append.1 LW).2.2 x.s (List.mem_append.2 (.inr (List.mem_map_of_mem hx))) x.s hi rfl
 have hM:∀i,i∈CR X CL l.length↔(i < l.length∧fw X i=true)∨i∈CL:=by
  intro i;unfold CR fw;rw[List.mem_append,List.mem_filter,List.mem_append,List.mem_map,List.mem_map,List.any_eq_true,decide_eq_true_eq];constructor
  ·rintro(⟨⟨x,hx,rfl⟩|⟨x,hx,rfl⟩,h2⟩| h)
   ·exact .inl ⟨h2,x,hx,by simp⟩
   ·exact .inl ⟨h2,x,hx,by simp⟩
   ·exact .inr h
  ·rintro(⟨h2,x,hx,hp⟩| h)
   ·rw[Bool.or_eq_true,beq_iff_eq,beq_iff_eq] at hp;rcases hp with rfl | rfl
    ·exact .inl ⟨.inl ⟨x,hx,rfl⟩,h2⟩
    ·exact .inl ⟨.inr ⟨x,hx,rfl⟩,h2⟩
   ·exact .inr h
 have nA:ops=l++ops.drop k:=by rw[hl];exact(List.take_append_drop k ops).symm
 refine Az (ops.drop k) l nA u (CR X CL l.length) (Qf w0.heap.size l.length w0 u X) (fun σ w h=>qg (Nat.le_refl _) h ((Below.refl _ _).drew)) ⟨Below.refl _ _,fun _ _=>rfl,fun _ _ _ _ _ _ h=>(by cases h),fun _ _ h=>(by cases h),fun _ _=>rfl⟩ hm aS (by rw[← nA];exact hz) ?_ ?_ ?_
 ·rw[List.all_eq_true];intro i hi;rw[decide_eq_true_eq];rcases(hM i).1 hi with h | h
  ·exact h.1
  ·exact gR i h
 ·refine xz l 0 fun i o hi=>?_
  have hst:=tu hs i o hi;rw[Nat.zero_add] at hst ⊢;have pA:i < l.length:=by
   rcases Nat.lt_or_ge i l.length with h | h
   ·exact h
   ·rw[List.getElem?_eq_none h] at hi;cases hi
  obtain⟨hg,hst⟩:=hst;intro ρ w σ hc hG hr he hn;refine⟨hg,?_⟩;have Ox:∀j v,tQ u (CR X CL l.length) σ j w v→fw X j=false→v=u j:=by
   intro j v hv hj;unfold tQ at hv;split at hv
   ·exact hG.u j v hv hj
   ·exact hv
  cases Tw:X.find? (fun x=>x.i==i)with
  | some x=>
    rw[Tw] at hst;obtain⟨hx,Qg⟩:=AA Tw;have Qg:x.i=i:=by simpa using Qg
    subst Qg;have yr:x.i∈CR X CL l.length:=(hM _).2 (.inl ⟨pA,mO hx⟩);rw[if_pos yr];refine cJ (hst ρ w hc) ?_;have hl2:Below w.heap.size w (w.alloc (.cells x.c x.T)):=((Below.refl _ _).alloc (Nat.le_refl _) _);have Oy:=qg (Nat.le_refl _) hG hl2;have WX:=hn yr;refine⟨Oy.b,fun y hy=>?_,fun y hy z hz Sn v hv hv2=>?_,fun j v hv hj=>?_,fun j hj=>?_⟩
    ·by_cases CS:y=x
     ·subst CS;unfold ny.now;rw[iY];refine⟨_,rfl,hG.b.size,?_⟩;have hs0:σ y.s=none:=by have:=hG.now y hy;unfold ny.now at this;rw[WX] at this;exact this
      rw[dn _ _ (fun e=>pn y hy y hy e.symm),hs0];exact ah.new _ _ _
     ·have:=Oy.now y hy;unfold ny.now at this ⊢;rw[dn _ _ (fun e=>CS (Zk y hy x hx e)),dn _ _ (fun e=>pn x hx y hy e.symm)];exact this
    ·by_cases CS:y.i=x.i
     ·have VP:z.i≠x.i:=fun e=>Sn (by rw[CS,e])
      rw[CS,iY] at hv;rw[dn _ _ VP] at hv2;injection hv with hv;subst hv;have:=hG.now z hz;unfold ny.now at this;rw[hv2] at this;obtain⟨g,hg1,_,hg3⟩:=this;have:w.heap.size=g:=by injection hg1 with hg1;injection hg1 with hg1;injection hg1
      have:=hg3.lt;omega
     ·rw[dn _ _ CS] at hv;by_cases VP:z.i=x.i
      ·rw[VP,iY] at hv2;injection hv2 with hv2;subst hv2;have:=hG.now y hy;unfold ny.now at this;rw[hv] at this;obtain⟨g,hg1,_,hg3⟩:=this;have:w.heap.size=g:=by injection hg1 with hg1;injection hg1 with hg1;injection hg1
       have:=hg3.lt;omega
      ·rw[dn _ _ VP] at hv2;exact hG.apart y hy z hz Sn v hv hv2
    ·have Qh:j≠x.i:=fun e=>by subst e;rw[mO hx] at hj;cases hj
     rw[dn _ _ Qh] at hv;exact hG.u j v hv hj
    ·have Qh:j≠x.i:=fun e=>by omega
     rw[dn _ _ Qh];exact hG.far j hj
  | none=>
    rw[Tw] at hst;cases eR:X.find? (fun x=>x.s==i)with
    | some x=>
      rw[eR] at hst;obtain⟨hx,Qg⟩:=AA eR;have Qg:x.s=i:=by simpa using Qg
      subst Qg;obtain⟨I8,hst⟩:=hst;have yr:x.s∈CR X CL l.length:=(hM _).2 (.inl ⟨pA,qW hx⟩);have Om:x.i∈CR X CL l.length:=(hM _).2 (.inl ⟨WW x hx,mO hx⟩);rw[if_pos yr];have pJ:=hn yr;have hsome:=he x.i (by simpa using I8) Om;have Qi:=hG.now x hx;unfold ny.now at Qi;cases LY:σ x.i with
      | none=>rw[LY] at hsome;cases hsome
      | some v0=>
        rw[LY] at Qi;obtain⟨g,rfl,II,hblk⟩:=Qi;rw[pJ] at hblk;obtain⟨w',hrun,hd,hgr⟩:=hst ρ w g hc hblk (mN (fun j v hv=>by
         by_cases hj:j=x.i
         ·rw[if_pos hj]
          unfold tQ at hv
          rw[if_pos (by rw[hj];exact Om),hj,LY] at hv
          injection hv with hv
          exact hv.symm
         ·rw[if_neg hj]
          exact Ox j v hv) hr)
        refine uI hrun ?_;have hl2:Below w0.heap.size w w':=⟨hgr.os,hgr.tape,hgr.output,hgr.size,fun k hk=>hgr.block k (Nat.lt_of_lt_of_le hk hG.b.size) (fun e=>by injection e with e;omega)⟩;refine⟨hG.b.trans hl2,fun y hy=>?_,fun y hy z hz Sn v hv hv2=>?_,fun j v hv hj=>?_,fun j hj=>?_⟩
        ·by_cases CS:y=x
         ·subst CS;unfold ny.now;rw[dn _ _ (pn y hy y hy),LY,iY];exact⟨g,rfl,II,hd⟩
         ·have:=hG.now y hy;unfold ny.now at this ⊢;rw[dn _ _ (pn y hy x hx),dn _ _ (fun e=>CS (tP y hy x hx e))];cases uj:σ y.i with
          | none=>rw[uj] at this;exact this
          | some v1=>rw[uj] at this;obtain⟨g1,rfl,h2,h3⟩:=this;refine⟨g1,rfl,h2,h3.grown hgr fun e=>?_⟩;injection e with e;subst e;exact hG.apart x hx y hy (fun e=>CS (Zk y hy x hx e.symm)) _ LY uj
        ·rw[dn _ _ (pn y hy x hx)] at hv;rw[dn _ _ (pn z hz x hx)] at hv2;exact hG.apart y hy z hz Sn v hv hv2
        ·have Qh:j≠x.s:=fun e=>by subst e;rw[qW hx] at hj;cases hj
         rw[dn _ _ Qh] at hv;exact hG.u j v hv hj
        ·have Qh:j≠x.s:=fun e=>by omega
         rw[dn _ _ Qh];exact hG.far j hj
    | none=>
      rw[eR] at hst;have wS:fw X i=false:=by
       cases hc2:fw X i with
       | false=>rfl
       | true=>
         rcases CQ hc2 with ⟨x,hx⟩|⟨_,x,hx⟩
         ·rw[hx] at Tw;cases Tw
         ·rw[hx] at eR;cases eR
      have hrun:=hst ρ w hc hG.b (mN Ox hr);by_cases AB:i∈CL
      ·rw[if_pos (by simpa using AB)] at hrun;rw[if_pos ((hM i).2 (.inr AB))];refine Jk hrun ?_;rintro v w' ⟨rfl,hb⟩;have Oy:=qg (Nat.le_refl _) hG hb;have hcs:∀y∈X,y.i≠i∧y.s≠i:=fun y hy=>⟨fun e=>(by subst e;rw[mO hy] at wS;cases wS),fun e=>(by subst e;rw[qW hy] at wS;cases wS)⟩
       refine⟨Oy.b,fun y hy=>?_,fun y hy z hz Sn v hv hv2=>?_,fun j v hv hj=>?_,fun j hj=>?_⟩
       ·have:=Oy.now y hy;unfold ny.now at this ⊢;rw[dn _ _ (hcs y hy).1,dn _ _ (hcs y hy).2];exact this
       ·rw[dn _ _ (hcs y hy).1] at hv;rw[dn _ _ (hcs z hz).1] at hv2;exact hG.apart y hy z hz Sn v hv hv2
       ·by_cases sU:j=i
        ·subst sU;rw[iY] at hv;injection hv with hv;exact hv.symm
        ·rw[dn _ _ sU] at hv;exact hG.u j v hv hj
       ·rw[dn _ _ (show j≠i by omega)];exact hG.far j hj
      ·rw[if_neg (by simpa using AB)] at hrun;rw[if_neg (fun h=>by
        rcases(hM i).1 h with h | h
        ·rw[wS] at h;cases h.2
        ·exact AB h)]
       exact hrun
 ·intro σ w hall hG;have hsome:∀x∈X,∃g,σ x.i=some (.pointer (some ⟨g,0,none⟩))∧w0.heap.size≤g∧ah w g x.T (if x.s < l.length then x.d else x.c):=by
   intro x hx;have h1:=hall x.i ((hM _).2 (.inl ⟨WW x hx,mO hx⟩));have h2:=hG.now x hx;unfold ny.now at h2;cases LY:σ x.i with
   | none=>rw[LY] at h1;cases h1
   | some v=>
     rw[LY] at h2;obtain⟨g,rfl,h3,h4⟩:=h2;refine⟨g,rfl,h3,?_⟩;by_cases hlt:x.s < l.length
     ·rw[if_pos (hall x.s ((hM _).2 (.inl ⟨hlt,qW hx⟩)))] at h4;rw[if_pos hlt];exact h4
     ·rw[hG.far x.s (by omega)] at h4;rw[if_neg hlt];exact h4
  refine rV ?_ (hf w (tx σ) hG.b ?_ ?_)
  ·intro j v hv;by_cases hj:X.any (fun x=>x.i==j)=true
   ·rw[if_pos hj];obtain⟨x,hx,he⟩:=List.any_eq_true.1 hj;have he:x.i=j:=by simpa using he
    subst he;obtain⟨g,h1,_⟩:=hsome x hx;unfold tQ at hv;rw[if_pos ((hM _).2 (.inl ⟨WW x hx,mO hx⟩)),h1] at hv;injection hv with hv;rw[← hv];simp only[tx,h1]
   ·rw[if_neg hj];intro hc;unfold tQ at hv;split at hv
    ·exact hG.u j v hv hc
    ·exact hv
  ·intro x hx;obtain⟨g,h1,h2,h3⟩:=hsome x hx;have:tx σ x.i=g:=by simp only[tx,h1]
   rw[this];exact⟨h2,h3⟩
  ·intro x hx y hy I9 e;obtain⟨g,h1,h2,h3⟩:=hsome x hx;obtain⟨g',jS,rH,Oq⟩:=hsome y hy;have e1:tx σ x.i=g:=by simp only[tx,h1]
   have e2:tx σ y.i=g':=by simp only[tx,jS]
   rw[e1,e2] at e;subst e;exact hG.apart x hx y hy I9 _ h1 jS
def tR (f:Nat→Value):List Oper→Nat→Act→Act
 | [],_,a=>a
 | o::l,i,a=>tR f l (i+1) (a.put o.dst (f i))
theorem rW {V:Nat→World→Value→Prop} {K:Act→World→Prop} {w:World} {f:Nat→Value}:∀ {l:List Oper} {i:Nat} {a:Act},(∀j o v,l[j]?=some o→o.dst.isSome=true→V (i+j) w v→v=f (i+j))→K (tR f l i a) w→dr V K l i a w
 | [],_,_,_,h=>h
 | o::l,i,a,hv,h=>by
   unfold dr;unfold tR at h;have hr:∀j o v,l[j]?=some o→o.dst.isSome=true→V (i+1+j) w v→v=f (i+1+j):=fun j o' v ho hd hx=>by have:=hv (j+1) o' v (by simpa using ho) hd (by rwa [show i+(j+1)=i+1+j by omega]);rwa [show i+(j+1)=i+1+j by omega] at this
   cases hd:o.dst with
   | none=>rw[hd] at h;exact rW hr h
   | some d=>rw[hd] at h;intro v hx;have:v=f i:=hv 0 o v rfl (by rw[hd];rfl) hx;subst this;exact rW hr h
def Qj (X:List ny)(l:List Oper):Bool:=(List.range l.length).all fun j=>match l[j]? with | some o=>o.dst.isNone || X.any (fun x=>x.i==j)|| !fw X j | none=>true
theorem dR {id:Nat} {ops:List Oper}(k:Nat)(u:Nat→Value)(X:List ny)(CL:List Nat)(hm:P.follows .mixedOrders=true)(aS:bR (ops.take k) a0.tmps.size (ops.take k) 0=true)(hz:cF ops (ops.drop k) (ops.take k).length=true)
  (hX:Jj X CL (ops.take k).length=true) (hD:Qj X (ops.take k)=true) (hs:qV P (ops.take k) u X CL a0 w0.heap.size w0 (ops.take k) 0)
  (hf:∀w (g:Nat→Nat),Below w0.heap.size w0 w→(∀x∈X,w0.heap.size≤g x.i∧ah w (g x.i) x.T (if x.s <(ops.take k).length then x.d else x.c))→(∀x∈X,∀y∈X,x.i≠y.i→g x.i≠g y.i)→
    wpList P ops.toArray Q (ops.drop k) (tR (fun j=>if X.any (fun x=>x.i==j)=true then .pointer (some ⟨g j,0,none⟩)else u j) (ops.take k) 0 a0) w):
  (Code.region id ops.toArray true).wp P Q a0 w0:=
 yK k u X CL hm aS hz hX hs fun w g h1 h2 h3=>rW (fun j o v ho hd hx=>by
  rw[Nat.zero_add] at hx ⊢
  by_cases hj:X.any (fun x=>x.i==j)=true
  ·rw[if_pos hj] at hx ⊢;exact hx
  ·rw[if_neg hj] at hx ⊢
   refine hx ?_
   have hlt:j <(ops.take k).length:=(List.getElem?_eq_some_iff.1 ho).1
   have:=List.all_eq_true.1 hD j (List.mem_range.2 hlt)
   rw[ho] at this
   simp only[Bool.or_eq_true] at this
   rcases this with (h | h)| h
   ·rw[Option.isNone_iff_eq_none] at h;rw[h] at hd;cases hd
   ·exact absurd h hj
   ·simpa using h) (hf w g h1 h2 h3)
end
section
variable {P:Program} {l:List Oper} {u:Nat→Value} {X:List ny} {CL:List Nat} {a0:Act} {B:Nat} {w0:World} {i:Nat} {o:Oper}
theorem cY (x:ny)(hg:o.guard=none)(hf:X.find? (fun x=>x.i==i)=some x)(h:∀ρ w,eX ρ→(execOp ρ o).run P w=.ok (.value (.pointer (some ⟨w.heap.size,0,none⟩))) (w.alloc (.cells x.c x.T))):mM P l u X CL a0 B w0 i o:=by refine⟨hg,?_⟩;rw[hf];exact h
theorem wT (x:ny)(hg:o.guard=none)(hf:X.find? (fun x=>x.i==i)=none)(hs:X.find? (fun x=>x.s==i)=some x)(he:(bZ o).contains x.i=true)
  (h:∀ρ w g,eX ρ→ah w g x.T x.c→cD l (fun j _ v=>if j=x.i then v=.pointer (some ⟨g,0,none⟩)else fw X j=false→v=u j) a0.eval ρ w o (tmpsOf o)→∃w',(execOp ρ o).run P w=.ok .skip w'∧ah w' g x.T x.d∧w.grownBy w' (some g)):mM P l u X CL a0 B w0 i o:=by
 refine⟨hg,?_⟩;rw[hf];dsimp only;rw[hs];exact⟨he,h⟩
theorem Jl {ty:TypeId} {x y:Operand} {ρ:Operand→Value} {w:World} {g:Nat} {T:TypeId} {c d:Array Value}(ho:o.op=.store ty x y)(hx:ρ x=.pointer (some ⟨g,0,none⟩))(hy:ρ y=.agg d)(hg:ah w g T c)(hi:(P.info? ty).map (·.size)=some d.size)(hold:c.size=d.size)(h1:d.all (·.oneCell')=true):
  (execOp ρ o).run P w=.ok .skip (w.setRow g d):=by
 unfold execOp;simp only[ho,hx,hy,Instr.storeAt,Instr.sureAddr,Sem.run_bind,Sem.run_pure,Result.andThen_ok,run_storeVar_row w g T ty c d hg hi hold h1]
theorem gp (x:ny)(ty:TypeId)(p y:Operand)(hg:o.guard=none)(ho:o.op=.store ty p y)(hf:X.find? (fun x=>x.i==i)=none)(hs:X.find? (fun x=>x.s==i)=some x)(he:(bZ o).contains x.i=true)
  (hi:(P.info? ty).map (·.size)=some x.d.size) (hold:x.c.size=x.d.size) (h1:x.d.all (·.oneCell')=true)
  (h:∀ρ w g,eX ρ→cD l (fun j _ v=>if j=x.i then v=.pointer (some ⟨g,0,none⟩)else fw X j=false→v=u j) a0.eval ρ w o (tmpsOf o)→ρ p=.pointer (some ⟨g,0,none⟩)∧ρ y=.agg x.d):mM P l u X CL a0 B w0 i o:=
 wT x hg hf hs he fun ρ w g hc hb hr=>⟨_,Jl ho (h ρ w g hc hr).1 (h ρ w g hc hr).2 hb hi hold h1,setRow_heap w g x.c x.d x.T (0,0) hb,
  ⟨rfl,rfl,rfl,by simp,fun i hi hne=>setRow_other w g i x.d (fun e=>hne (by rw[e]))⟩⟩
theorem kf (hn:fw X i=false):X.find? (fun x=>x.i==i)=none∧X.find? (fun x=>x.s==i)=none:=by
 constructor
 ·rw[List.find?_eq_none];intro x hx h;have:x.i=i:=by simpa using h
  subst this;rw[mO hx] at hn;cases hn
 ·rw[List.find?_eq_none];intro x hx h;have:x.s=i:=by simpa using h
  subst this;rw[qW hx] at hn;cases hn
theorem ag (hg:o.guard=none)(hn:fw X i=false)(hc:CL.contains i=false)(h:∀ρ w,eX ρ→Below B w0 w→cD l (fun j _ v=>fw X j=false→v=u j) a0.eval ρ w o (tmpsOf o)→(execOp ρ o).run P w=.ok (.value (u i)) w):mM P l u X CL a0 B w0 i o:=by refine⟨hg,?_⟩;rw[(kf hn).1];dsimp only;rw[(kf hn).2];dsimp only;intro ρ w h1 h2 h3;rw[hc];exact h ρ w h1 h2 h3
theorem cK (hg:o.guard=none)(hn:fw X i=false)(hc:CL.contains i=true)(h:∀ρ w,eX ρ→Below B w0 w→cD l (fun j _ v=>fw X j=false→v=u j) a0.eval ρ w o (tmpsOf o)→mE P o ρ w fun v w'=>v=u i∧Below w.heap.size w w'):mM P l u X CL a0 B w0 i o:=by refine⟨hg,?_⟩;rw[(kf hn).1];dsimp only;rw[(kf hn).2];dsimp only;intro ρ w h1 h2 h3;rw[hc];exact h ρ w h1 h2 h3
theorem ek {ρ:Operand→Value} {w:World} {f:FuncId} {args:Array Value} {v:Value}(h:(execOp ρ o).run P w=.ok (.enter f args) w)(hc:Calls P f args w fun e w'=>e=.returned v∧Below w.heap.size w w'):mE P o ρ w fun x w'=>x=v∧Below w.heap.size w w':=
 lZ h (hc.mono fun e w' ⟨h1,h2⟩=>⟨v,h1,rfl,h2⟩)
end
theorem gO {w:World} {q:Nat} {T:TypeId} {old:Array Value}(h:ah w q T old)(cs:Array Value):ah (w.setRow q cs) q T cs:=setRow_heap w q old cs T (0,0) h
theorem cG {w:World} {q b:Nat} {T:TypeId} {old:Array Value}(h:ah w b T old)(hq:b≠q)(cs:Array Value):ah (w.setRow q cs) b T old:=(setRow_other w q b cs hq).trans h
theorem dI {w w':World} {B q:Nat}(h:Below B w w')(hq:B≤q)(cs:Array Value):Below B w (w'.setRow q cs):=below_setRow h hq cs
end Go.Proofs.YtfmbcoeallmnnaaGreatDoor
