/- Parts of the proof. -/
import Derived.Test.YtfmbcoeallmnnaaGreatDoorC27
namespace Go.Proofs.YtfmbcoeallmnnaaGreatDoor.R
open Go.Lib (hid)
open Go.RowKit
def uY (u:Nat→Value)(ch:List Nat)(vs:List Value)(i:Nat)(_:World)(v:Value):Prop:=
 match ch.idxOf? i with
 | some k=>vs[k]?=some v
 | none=>v=u i
def fu (l:List Oper):List Nat→Bool
 | a::b::r=>(match l[b]? with | some o=>eE o a | none=>false)&& fu l (b::r)
 | _=>true
def qU (P:Program)(l:List Oper)(u:Nat→Value)(ch:List Nat)(G:List Value→World→Prop)(a0:Act)(i:Nat)(o:Oper):Prop:=
 ∀ρ w vs,eX ρ→G vs w→cD l (uY u ch vs) a0.eval ρ w o (tmpsOf o)→o.guard=none∧
  match ch.idxOf? i with
  | none=>(execOp ρ o).run P w=.ok (.value (u i)) w
  | some k=>vs.length=k→mE P o ρ w fun v w'=>G (vs++ [v]) w'
def qf (P:Program)(l:List Oper)(u:Nat→Value)(ch:List Nat)(G:List Value→World→Prop)(a0:Act):List Oper→Nat→Prop
 | [],_=>True
 | o::rest,i=>qU P l u ch G a0 i o∧qf P l u ch G a0 rest (i+1)
theorem mh {P:Program} {L:List Oper} {u:Nat→Value} {ch:List Nat} {G:List Value→World→Prop} {a0:Act}:∀ {l:List Oper} {k:Nat},qf P L u ch G a0 l k→∀i o,l[i]?=some o→qU P L u ch G a0 (k+i) o
 | [],_,_,i,o,h=>by simp at h
 | x::l,k,hs,0,o,h=>by simp at h;subst h;exact hs.1
 | x::l,k,hs,i+1,o,h=>by have:=mh hs.2 i o (by simpa using h);rwa [show k+1+i=k+(i+1) by omega] at this
theorem nT {ch:List Nat} {i k:Nat}(h:ch.idxOf? i=some k):ch[k]?=some i:=by rw[List.idxOf?,List.findIdx?_eq_some_iff_getElem] at h;obtain⟨hk,h1,_⟩:=h;rw[List.getElem?_eq_getElem hk];simpa using h1
theorem nU {ch:List Nat} {i:Nat}(h:ch.idxOf? i=none):i∉ch:=by intro hm;rw[List.idxOf?,List.findIdx?_eq_none_iff] at h;have:=h i hm;simp at this
theorem CO {ch:List Nat}(hn:ch.Nodup) {i k:Nat}(h:ch[k]?=some i):ch.idxOf? i=some k:=by
 obtain⟨hk,he⟩:=List.getElem?_eq_some_iff.1 h;cases hc:ch.idxOf? i with
 | none=>exact absurd (List.mem_of_getElem? h) (nU hc)
 | some k'=>have h2:=nT hc;obtain⟨zW,WV⟩:=List.getElem?_eq_some_iff.1 h2;congr 1;exact(List.getElem_inj hn).1 (WV.trans he.symm)
theorem mi {l:List Oper}:∀ {ch:List Nat} {k a b:Nat},fu l ch=true→ch[k]?=some a→ch[k+1]?=some b→∃o,l[b]?=some o∧eE o a=true
 | [],_,_,_,_,h,_=>by simp at h
 | [x],0,_,_,_,_,h=>by simp at h
 | [x],_+1,_,_,_,h,_=>by simp at h
 | x::y::r,0,a,b,hc,h1,h2=>by
   simp at h1 h2;subst h1 h2;simp only[fu,Bool.and_eq_true] at hc;have:=hc.1;split at this
   ·rename_i o ho;exact⟨o,ho,this⟩
   ·cases this
 | x::y::r,k+1,a,b,hc,h1,h2=>by simp only[fu,Bool.and_eq_true] at hc;exact mi hc.2 (by simpa using h1) (by simpa using h2)
theorem Inv.imp {l:List Oper} {V V':Nat→World→Value→Prop} {R:World→World→Prop} {a0:Act} {w0:World} {m:Nat} {listed:Array Bool} {a:Act} {w:World}(I:Inv l V R a0 w0 m listed a w)(h:∀i w v,V i w v→V' i w v):Inv l V' R a0 w0 m listed a w:=
 ⟨I.r,I.defers,I.size,I.old,fun i o d h1 h2 h3=>h _ _ _ (I.new i o d h1 h2 h3),I.closed,I.len,I.tail⟩
theorem uZ {u:Nat→Value} {ch:List Nat} {vs:List Value}(v:Value)(i:Nat)(w:World)(x:Value)(h:uY u ch vs i w x):uY u ch (vs++ [v]) i w x:=by
 unfold uY at*;cases hk:ch.idxOf? i with
 | some k=>rw[hk] at h;simp only at h ⊢;obtain⟨hlt,_⟩:=List.getElem?_eq_some_iff.1 h;rw[List.getElem?_append_left hlt];exact h
 | none=>rw[hk] at h;exact h
section
variable {P:Program} {l zs:List Oper} {Q:Exit→Act→World→Prop} {u:Nat→Value} {ch:List Nat} {G:List Value→World→Prop} {a0:Act} {w0:World}
theorem mj {N:Nat}(vs:List Value)(aS:bR l N l 0=true)(hz:cF (l++zs) zs l.length=true) {listed:Array Bool} {a:Act} {w:World}(hf:dr (uY u ch vs) (fun a w=>wpList P (l++zs).toArray Q zs a w) l 0 a0 w)(I:Inv l (uY u ch vs) (fun _ _=>True) a0 w0 (l++zs).length listed a w)
  (h0:aD l.length listed=0):wpAny P .any (l++zs).toArray Q zs.length listed a w:=by
 have hall:=ck h0;have ha:a=fill (fun d=>a.eval (.tmp d)) l a0:=by
  have h1:a.tmps=(fill (fun d=>a.eval (.tmp d)) l a0).tmps:=by
   apply Array.ext_getElem?;intro t;by_cases ht:t < a0.tmps.size
   ·rw[iu _ _ _ _ ht];split
    ·simp[Act.eval,I.size,ht]
    ·rename_i hno;refine I.old t ?_;intro i o hi hd _;exact hno ⟨o,List.mem_of_getElem? hi,hd⟩
   ·rw[Array.getElem?_eq_none (by rw[I.size];omega),Array.getElem?_eq_none (by rw[gh];omega)]
  have h2:a.defers=(fill (fun d=>a.eval (.tmp d)) l a0).defers:=by rw[et,I.defers]
  exact mH h1 h2
 have hK:=kz (V:=uY u ch vs) (fun d=>a.eval (.tmp d)) l 0 a0 (fun i o d hi hd=>by
  rw[Nat.zero_add]
  have pA:i < l.length:=by
   rcases Nat.lt_or_ge i l.length with h' | h'
   ·exact h'
   ·rw[List.getElem?_eq_none h'] at hi;cases hi
  exact I.new i o d hi (hall i pA) hd) hf
 rw[← ha] at hK;refine ix aS hz 0 zs rfl listed a w I.len ?_ hK;intro i hi;constructor
 ·intro hl;rcases Nat.lt_or_ge i l.length with h' | h'
  ·omega
  ·rw[I.tail i h'] at hl;cases hl
 ·intro hl;exact hall i (by omega)
theorem jZ {id:Nat} {ops:List Oper}(zs:List Oper)(l:List Oper)(nA:ops=l++zs)(u:Nat→Value)(ch:List Nat)(G:List Value→World→Prop)(iy:∀vs w,G vs w→G vs w.drew)(hG:G [] w0)
  (hm:P.follows .mixedOrders=true) (aS:bR l a0.tmps.size l 0=true) (hz:cF (l++zs) zs l.length=true) (hch:fu l ch=true) (LW:ch.Nodup) (uf:ch.all (fun i=>decide (i < l.length))=true)
  (hs:qf P l u ch G a0 l 0) (hf:∀vs w,vs.length=ch.length→G vs w→dr (uY u ch vs) (fun a w=>wpList P ops.toArray Q zs a w) l 0 a0 w):(Code.region id ops.toArray true).wp P Q a0 w0:=by
 subst nA;have main:∀(fuel:Nat) (listed:Array Bool) (a:Act) (w:World) (vs:List Value),Inv l (uY u ch vs) (fun _ _=>True) a0 w0 (l++zs).length listed a w→G vs w→(∀k i,ch[k]?=some i→(listed.getD i false=true↔k < vs.length))→vs.length≤ch.length→fuel=aD l.length listed+zs.length→wpAny P .any (l++zs).toArray Q fuel listed a w:=by
  intro fuel;induction fuel with
  | zero=>
    intro listed a w vs I hg gR Tv Iw;have h0:aD l.length listed=0:=by omega
    have hz0:zs.length=0:=by omega
    have hall:=ck h0;have Qd:vs.length=ch.length:=by
     rcases Nat.lt_or_ge vs.length ch.length with h' | h'
     ·have hi:=List.getElem?_eq_getElem h';have hb:=of_decide_eq_true (List.all_eq_true.1 uf _ (List.getElem_mem h'));have:=(gR _ _ hi).1 (hall _ hb);omega
     ·omega
    have:=mj vs aS hz (hf vs w Qd hg) I h0;rwa [hz0] at this
  | succ fuel ih=>
    intro listed a w vs I hg gR Tv Iw;by_cases h0:aD l.length listed=0
    ·have hall:=ck h0;have Qd:vs.length=ch.length:=by
      rcases Nat.lt_or_ge vs.length ch.length with h' | h'
      ·have hi:=List.getElem?_eq_getElem h';have hb:=of_decide_eq_true (List.all_eq_true.1 uf _ (List.getElem_mem h'));have:=(gR _ _ hi).1 (hall _ hb);omega
      ·omega
     have:=mj vs aS hz (hf vs w Qd hg) I h0;rwa [show zs.length=fuel+1 by omega] at this
    ·obtain⟨i0,pj,Fz⟩:=fc h0;obtain⟨i,⟨hi,hu⟩,uE⟩:=least (p:=fun i=>i < l.length∧listed.getD i false=false) i0 ⟨pj,Fz⟩;have kA:∀j,j < i→listed.getD j false=true:=fun j hj=>by
      cases hc:listed.getD j false with
      | true=>rfl
      | false=>exact absurd ⟨by omega,hc⟩ (uE j hj)
     have ug:l[i]?=some l[i]:=List.getElem?_eq_getElem hi;have kB:=aO aS i _ ug;simp only[eh,Bool.and_eq_true,Nat.zero_add] at kB;have dY:i∈Region.ready .any (l++zs).toArray listed:=by
      refine iw (fI ug) ?_ fun j hj=>kA j (of_decide_eq_true (List.all_eq_true.1 kB.1.1.1 j hj))
      rw[cg (by rw[I.len];simp;omega)];exact hu
     refine⟨(fun hnil=>by rw[hnil] at dY;cases dY),fun j hj=>?_⟩;obtain⟨nI,oj,gK,hall⟩:=mem_ready.1 hj;have sV:j <(l++zs).length:=by
      rcases Nat.lt_or_ge j (l++zs).length with h' | h'
      ·exact h'
      ·rw[Array.getElem?_eq_none (by simpa using h')] at gK;cases gK
     rw[cg (by rw[I.len];exact sV)] at nI;have cO:∀k∈bZ oj,listed.getD k false=true:=fun k hk=>by obtain⟨e,he,hb,rfl⟩:=dV.1 hk;exact hall e he hb
     have yt:j < l.length:=by
      rcases Nat.lt_or_ge j l.length with h' | h'
      ·exact h'
      ·exfalso;have Cs:zs[j - l.length]?=some oj:=by
        have:(l++zs)[j]?=some oj:=by simpa using gK
        rw[List.getElem?_append_right (by omega)] at this;exact this
       have uD:=dw hz (j - l.length) oj Cs;rw[show l.length+(j - l.length)=j by omega] at uD;have hc:=dC (L:=l++zs) (fun k=>listed.getD k false=true) (by
        intro k ok hk hd e he
        rcases Nat.lt_or_ge k l.length with uF | uF
        ·rw[List.getElem?_append_left uF] at hk
         exact I.closed k ok hk hd e he
        ·rw[I.tail k uF] at hd;cases hd) j (bZ oj) uD.2 cO i (by omega)
       rw[hu] at hc;cases hc
     have oF:l[j]?=some oj:=by
      have:(l++zs)[j]?=some oj:=by simpa using gK
      rw[List.getElem?_append_left yt] at this;exact this
     have hst:=mh hs j oj oF;rw[Nat.zero_add] at hst;have En:=Inv.reads aS I oF nI cO (tmpsOf oj) (fun _ h=>h);obtain⟨hgd,hstep⟩:=hst a.eval w vs (fG a) hg En;have Jh:j < listed.size:=by rw[I.len];exact sV
     have Ax:fuel=aD l.length (listed.setIfInBounds j true)+zs.length:=by have:=eZ l.length listed j Jh yt nI;omega
     unfold wpOp;rw[gK];show if Region.wanted oj (yielded (l++zs).toArray a.tmps)=true then _ else _
     rw[if_pos (by simp[Region.wanted,hgd])];refine .inl ?_;cases wS:ch.idxOf? j with
     | none=>
       simp only[wS] at hstep;refine ej (T:=fun v w'=>v=u j∧w'=w) (cJ hstep ⟨rfl,rfl⟩) ?_;rintro v w' ⟨rfl,rfl⟩;refine ih _ _ _ vs (I.step aS (fun _ _ _ _ h _=>h) (fun _ _ _ _ _=>trivial) oF sV nI cO trivial ?_) hg ?_ Tv Ax
       ·unfold uY;simp only[wS]
       ·intro k i' hk;have hne:i'≠j:=fun e=>nU wS (e▸List.mem_of_getElem? hk)
        rw[bT _ _ _ Jh,if_neg hne];exact gR k i' hk
     | some k=>
       simp only[wS] at hstep;have CP:=nT wS;have Ow:vs.length=k:=by
        have h1:¬k < vs.length:=fun h=>by have:=(gR k j CP).2 h;rw[nI] at this;cases this
        match k,CP,h1 with
        | 0,_,h1=>omega
        | k+1,CP,h1=>
          obtain⟨Ct,_⟩:=List.getElem?_eq_some_iff.1 CP;have hp:ch[k]?=some ch[k]:=List.getElem?_eq_getElem (by omega);obtain⟨o',oG,he⟩:=mi hch hp CP;rw[oF] at oG;injection oG with oG;subst oG
          have:=(gR k _ hp).1 (cO _ (cN.1 he));omega
       refine ej (hstep Ow) ?_;intro v w' Cv;have I':=(I.imp (fun i w x h=>uZ (ch:=ch) (u:=u) v i w x h));refine ih _ _ _ (vs++ [v]) (I'.step aS (fun _ _ _ _ h _=>h) (fun _ _ _ _ _=>trivial) oF sV nI cO trivial ?_) Cv ?_ ?_ Ax
       ·unfold uY;simp only[wS];rw[← Ow];simp
       ·intro k' i' zW;rw[bT _ _ _ Jh,List.length_append,List.length_singleton];by_cases Ix:i'=j
        ·subst Ix;have:=CO LW zW;rw[wS] at this;injection this with this;simp only[if_true,true_iff];omega
        ·rw[if_neg Ix,gR k' i' zW];have hne:k'≠k:=fun e=>Ix (by rw[e,CP] at zW;injection zW with zW;exact zW.symm)
         omega
       ·obtain⟨Ct,_⟩:=List.getElem?_eq_some_iff.1 CP;simp;omega
 refine wp_region_any hm ?_;have:=main (l++zs).toArray.size (Array.replicate (l++zs).toArray.size false) a0 w0.drew [] ⟨trivial,rfl,rfl,fun _ _=>rfl,(fun i o d _ h=>by rw[aB] at h;cases h),(fun i o _ h=>by rw[aB] at h;cases h),by simp,fun i _=>aB _ _⟩ (iy _ _ hG) (fun k i _=>by rw[aB];simp) (by simp) (by
  have:aD l.length (Array.replicate (l++zs).toArray.size false)=l.length:=by
   unfold aD
   rw[List.filter_eq_self.2 (fun i _=>by rw[aB];rfl),List.length_range]
  rw[this];simp)
 exact this
end
set_option linter.unusedVariables false
theorem ae.cell {a b:World}(h:ae a b) {p:Addr}(hp:p.block < a.heap.size):b.cell? p=a.cell? p:=Below.cell h hp
theorem nh {a b:World} {row:Option Nat}(h:a.grownBy b row) {p:Addr}(hp:p.block < a.heap.size)(hr:some p.block≠row):b.cell? p=a.cell? p:=by unfold World.cell?;rw[h.block p.block hp hr]
def zu (o0 o1 o2 o3 o4 o5 o6:Oper)(q d0 d1 d2 d3 d4 d5 d6:Tmp):Bool:=
 (tmpsOf o0== [q])&&(dX [o0,o1,o2,o3,o4,o5,o6] o0 q==none)&&(tmpsOf o1== [d0])&&(dX [o0,o1,o2,o3,o4,o5,o6] o1 d0==some 0)&&
 (tmpsOf o2== [0])&&(dX [o0,o1,o2,o3,o4,o5,o6] o2 0==none)&&(tmpsOf o3== [d2])&&(dX [o0,o1,o2,o3,o4,o5,o6] o3 d2==some 2)&&
 (tmpsOf o4== [d3])&&(dX [o0,o1,o2,o3,o4,o5,o6] o4 d3==some 3)&&(tmpsOf o5== [d1,d4])&&(dX [o0,o1,o2,o3,o4,o5,o6] o5 d1==some 1)&&(dX [o0,o1,o2,o3,o4,o5,o6] o5 d4==some 4)&&
 (tmpsOf o6== [q])&&(dX [o0,o1,o2,o3,o4,o5,o6] o6 q==none)&&
 (o0.dst==some d0)&&(o1.dst==some d1)&&(o2.dst==some d2)&&(o3.dst==some d3)&&(o4.dst==some d4)&&(o5.dst==some d5)&&(o6.dst==some d6)&&
 o0.guard.isNone && o1.guard.isNone && o2.guard.isNone && o3.guard.isNone && o4.guard.isNone && o5.guard.isNone && o6.guard.isNone
section
variable {P:Program} {β:Type} (f:β→List Value) (val:β→Value) (e:TypeId) (size base:Nat) (l:List β) (lv:Value) (Post:β→World→World→Prop) (w0:World)
def Ff:List Value→World→Prop
 | [],w=>ae w0 w
 | [a],w=>∃y w1 fF,a=val y∧ae w0 w1∧Post y w1 fF∧ae fF w
 | [a,s],w=>∃y w1 fF g0,a=val y∧s=.slice (some ⟨g0,0,none⟩) 1 1∧ae w0 w1∧Post y w1 fF∧ae fF w∧ah w g0 e (f y).toArray
 | [a,s,v],w=>∃y w1 fF w2,a=val y∧ae w0 w1∧Post y w1 fF∧ae fF w2∧aW f e size w2 base lv l∧w2.grownBy w lv.ownBlock∧aW f e size w base v (l++ [y])∧(lv=.slice none 0 0→l=[]→aW f e size w w2.heap.size v [y])
 | _,_=>False
theorem DJ (vs:List Value)(w:World)(h:Ff f val e size base l lv Post w0 vs w):Ff f val e size base l lv Post w0 vs w.drew:=by
 match vs,h with
 | [],h=>exact ae.trans h (ae.drew _)
 | [a],⟨y,w1,fF,h1,h2,h3,h4⟩=>exact⟨y,w1,fF,h1,h2,h3,h4.trans (ae.drew _)⟩
 | [a,s],⟨y,w1,fF,g0,h1,h2,h3,h4,h5,h6⟩=>exact⟨y,w1,fF,g0,h1,h2,h3,h4,h5.trans (ae.drew _),h6.drew⟩
 | [a,s,v],⟨y,w1,fF,w2,h1,h2,h3,h4,h5,h6,h7,h8⟩=>exact⟨y,w1,fF,w2,h1,h2,h3,h4,h5,⟨h6.os,h6.tape,h6.output,h6.size,h6.block⟩,h7.later (ae.drew _),fun a b=>(h8 a b).later (ae.drew _)⟩
 | _::_::_::_::_,h=>exact h.elim
variable {f val e size base l lv Post w0}
variable {Q:Exit→Act→World→Prop} {a0:Act} {id:Nat} {o0 o1 o2 o3 o4 o5 o6 o7:Oper} {q d0 d1 d2 d3 d4 d5 d6:Tmp} {qb k g:Nat} {pq ptr:Value} {F:FuncId} {args:Array Value}
theorem jE (t ty:TypeId)(z:Value)(bytes:Nat)
  (hm:P.follows .mixedOrders=true) (aS:bR [o0,o1,o2,o3,o4,o5,o6] a0.tmps.size [o0,o1,o2,o3,o4,o5,o6] 0=true) (hz:cF [o0,o1,o2,o3,o4,o5,o6,o7] [o7] 7=true) (hch:fu [o0,o1,o2,o3,o4,o5,o6] [3,4,5]=true) (Pf:zu o0 o1 o2 o3 o4 o5 o6 q d0 d1 d2 d3 d4 d5 d6=true)
  (hq:a0.eval (.tmp q)=pq) (h0:a0.eval (.tmp 0)=ptr)
  (Xy:∀ρ w,ρ (.tmp q)=pq→(execOp ρ o0).run P w=.ok (.value (.pointer (some ⟨qb,k,none⟩))) w) (Rj:∀ρ w,ρ (.tmp q)=pq→(execOp ρ o6).run P w=.ok (.value (.pointer (some ⟨qb,k,none⟩))) w)
  (Xz:∀ρ w,ρ (.tmp d0)=.pointer (some ⟨qb,k,none⟩)→w.cell? ⟨qb,k,none⟩=some lv→(execOp ρ o1).run P w=.ok (.value lv) w)
  (UH:∀ρ w,ρ (.tmp 0)=ptr→(execOp ρ o2).run P w=.ok (.value ptr) w)
  (gR:∀ρ w,eX ρ→ρ (.tmp d2)=ptr→(execOp ρ o3).run P w=.ok (.enter F args) w)
  (Bv:∀ρ w y,ρ (.tmp d3)=val y→(execOp ρ o4).run P w=.ok (.value (.slice (some ⟨w.heap.size,0,none⟩) 1 1)) (w.alloc (.cells (f y).toArray e)))
  (hap:∀ρ w s v' w',ρ (.tmp d1)=lv→ρ (.tmp d4)=s→(Builtin.append_ #[t,t] ty #[lv,s]).run P w=.ok v' w'→(execOp ρ o5).run P w=.ok (.value v') w')
  (ht:P.underlying t=some (.slice e)) (jw:(P.info? e).map (fun i=>(i.zero,i.size,i.bytes))=some (some z,size,bytes)) (hzs:z.cells.size=size) (hsz:0 < size) (hf:∀x,(f x).length=size) (h1:∀y,∀u∈f y,u.oneCell'=true)
  (hown:aW f e size w0 base lv l) (hcell:w0.cell? ⟨qb,k,none⟩=some lv) (LQ:qb≠g) (KC:lv.ownBlock≠some g) (XA:lv.ownBlock≠some qb) (hlen:(l.length+1)*bytes≤140737488355328) (kD:l.length+1≤140737488355328) (hbase:base≤w0.heap.size)
  (KD:∀w,ae w0 w→Calls P F args w fun e w'=>∃y,e=.returned (val y)∧Post y w w') (XB:∀y w w',Post y w w'→w.grownBy w' (some g))
  (KE:∀y s v' w1 fF w2 W,ae w0 w1→Post y w1 fF→ae fF w2→aW f e size w2 base lv l→w2.grownBy W lv.ownBlock→aW f e size W base v' (l++ [y])→(lv=.slice none 0 0→l=[]→aW f e size W w2.heap.size v' [y])→W.cell? ⟨qb,k,none⟩=some lv→
    wpList P [o0,o1,o2,o3,o4,o5,o6,o7].toArray Q [o7] (((((((a0.put (some d0) (.pointer (some ⟨qb,k,none⟩))).put (some d1) lv).put (some d2) ptr).put (some d3) (val y)).put (some d4) s).put (some d5) v').put (some d6) (.pointer (some ⟨qb,k,none⟩))) W):
  (Code.region id [o0,o1,o2,o3,o4,o5,o6,o7].toArray true).wp P Q a0 w0:=by
 simp only[zu,Bool.and_eq_true,beq_iff_eq,Option.isNone_iff_eq_none] at Pf;obtain⟨⟨⟨⟨⟨⟨⟨⟨⟨⟨⟨⟨⟨⟨⟨⟨⟨⟨⟨⟨⟨⟨⟨⟨⟨⟨⟨⟨t0,s0⟩,t1⟩,s1⟩,t2⟩,s2⟩,t3⟩,s3⟩,t4⟩,s4⟩,t5⟩,s5⟩,XC⟩,t6⟩,s6⟩,e0⟩,e1⟩,e2⟩,e3⟩,e4⟩,e5⟩,e6⟩,g0⟩,g1⟩,g2⟩,g3⟩,g4⟩,g5⟩,g6⟩:=Pf;have GY:qb < w0.heap.size:=(by rcases Nat.lt_or_ge qb w0.heap.size with h | h;exact h;exact absurd hcell (by unfold World.cell?;rw[Array.getElem?_eq_none h];simp))
 -- the cell stays
 have rB:∀ {y w1 fF w},ae w0 w1→Post y w1 fF→ae fF w→w.cell? ⟨qb,k,none⟩=some lv∧aW f e size w base lv l∧w0.heap.size≤w.heap.size:=by
  intro y w1 fF w ha hb hc;have hg:=XB _ _ _ hb;have z1:qb < w1.heap.size:=Nat.lt_of_lt_of_le GY ha.size;have z2:qb < fF.heap.size:=Nat.lt_of_lt_of_le z1 hg.size;refine⟨?_,?_,Nat.le_trans ha.size (Nat.le_trans hg.size hc.size)⟩
  ·rw[hc.cell (p:=⟨qb,k,none⟩) z2,nh hg (p:=⟨qb,k,none⟩) z1 (fun e=>LQ (by injection e)),ha.cell (p:=⟨qb,k,none⟩) GY];exact hcell
  ·exact((hown.later ha).grown hg KC).later hc
 have vX:∀vs w,Ff f val e size base l lv Post w0 vs w→w.cell? ⟨qb,k,none⟩=some lv:=by
  intro vs w h
  match vs,h with
  | [],h=>rw[ae.cell h (p:=⟨qb,k,none⟩) GY];exact hcell
  | [a],⟨y,w1,fF,_,h2,h3,h4⟩=>exact(rB h2 h3 h4).1
  | [a,s],⟨y,w1,fF,_,_,_,h2,h3,h4,_⟩=>exact(rB h2 h3 h4).1
  | [a,s,v],⟨y,w1,fF,w2,_,h2,h3,h4,_,h6,_,_⟩=>obtain⟨k1,_,k3⟩:=rB h2 h3 h4;rw[nh h6 (p:=⟨qb,k,none⟩) (Nat.lt_of_lt_of_le GY k3) (fun e=>XA e.symm)];exact k1
  | _::_::_::_::_,h=>exact h.elim
 refine jZ [o7] [o0,o1,o2,o3,o4,o5,o6] rfl (fun i=>if i=0 then .pointer (some ⟨qb,k,none⟩)else if i=1 then lv else if i=2 then ptr else .pointer (some ⟨qb,k,none⟩)) [3,4,5] (Ff f val e size base l lv Post w0) (DJ f val e size base l lv Post w0) (ae.refl w0) hm aS hz hch (by decide) rfl ?_ ?_
 ·refine⟨?_,?_,?_,?_,?_,?_,?_,trivial⟩
  ·intro ρ w vs hc hG hr;rw[t0] at hr;have r0:=hr.1;simp only[s0] at r0;exact⟨g0,Xy ρ w (r0.trans hq)⟩
  ·intro ρ w vs hc hG hr;rw[t1] at hr;have r0:=hr.1;simp only[s1] at r0;exact⟨g1,Xz ρ w r0 (vX _ _ hG)⟩
  ·intro ρ w vs hc hG hr;rw[t2] at hr;have r0:=hr.1;simp only[s2] at r0;exact⟨g2,UH ρ w (r0.trans h0)⟩
  ·intro ρ w vs hc hG hr;rw[t3] at hr;have r0:=hr.1;simp only[s3] at r0;refine⟨g3,?_⟩;show vs.length=0→_;intro hl;obtain rfl:=List.eq_nil_of_length_eq_zero hl;refine lZ (gR ρ w hc r0) ((KD w hG).mono ?_);rintro e' w' ⟨y,rfl,hp⟩;exact⟨_,rfl,y,w,w',rfl,hG,hp,ae.refl _⟩
  ·intro ρ w vs hc hG hr;rw[t4] at hr;have r0:=hr.1;simp only[s4] at r0;refine⟨g4,?_⟩;show vs.length=1→_;intro hl
   match vs,hl with
   | [a],_=>have r0:some a=some (ρ (.tmp d3)):=r0;injection r0 with r0;obtain⟨y,w1,fF,ha,h2,h3,h4⟩:=hG;refine cJ (Bv ρ w y (r0.symm.trans ha)) ?_;exact⟨y,w1,fF,w.heap.size,ha,rfl,h2,h3,h4.trans ((Below.refl _ _).alloc (Nat.le_refl _) _),ah.new w e _⟩
  ·intro ρ w vs hc hG hr;rw[t5] at hr;have r0:=hr.1;have r1:=hr.2.1;simp only[s5] at r0;simp only[XC] at r1;refine⟨g5,?_⟩;show vs.length=2→_;intro hl
   match vs,hl with
   | [a,s],_=>
     have r1:some s=some (ρ (.tmp d4)):=r1;injection r1 with r1;obtain⟨y,w1,fF,gg,ha,hs,h2,h3,h4,h5⟩:=hG;obtain⟨k1,k2,k3⟩:=rB h2 h3 h4;obtain⟨v',w',hrun,ho,XD⟩:=fO (P:=P) (w:=w) t ty z bytes ht jw hzs hsz hf (h1 y) k2 gg h5 hlen kD (Nat.le_trans hbase k3);refine cJ (hap ρ w _ v' w' r0 (r1.symm.trans hs) hrun) ⟨y,w1,fF,w,ha,h2,h3,h4,k2,XD.grown,ho,?_⟩;intro hlv hl0;subst hl0;have k4:aW f e size w w.heap.size lv ([]:List β):=by rw[hlv];exact aW.nil
     obtain⟨v2,Ih,Pg,uh,_⟩:=fO (P:=P) (w:=w) t ty z bytes ht jw hzs hsz hf (h1 y) k4 gg h5 hlen kD (Nat.le_refl _);rw[hrun] at Pg;injection Pg with e1 e2;rw[e1,e2];exact uh
  ·intro ρ w vs hc hG hr;rw[t6] at hr;have r0:=hr.1;simp only[s6] at r0;exact⟨g6,Rj ρ w (r0.trans hq)⟩
 ·intro vs w hl hG;have AB:=vX _ _ hG
  match vs,hl with
  | [a,s,v],_=>obtain⟨y,w1,fF,w2,ha,h2,h3,h4,h5,h6,h7,h8⟩:=hG;simp only[dr,e0,e1,e2,e3,e4,e5,e6];intro UI p0 a1 p1 a2 p2 a3 p3 a4 p4 a5 p5 a6 p6;have z0:UI=.pointer (some ⟨qb,k,none⟩):=p0;have z1:a1=lv:=p1;have z2:a2=ptr:=p2;have z3:some a=some a3:=p3;have z4:some s=some a4:=p4;have z5:some v=some a5:=p5;have z6:a6=.pointer (some ⟨qb,k,none⟩):=p6;injection z3 with z3;injection z4 with z4;injection z5 with z5;rw[z0,z1,z2,← z3,← z4,← z5,z6,ha];exact KE y s v w1 fF w2 w h2 h3 h4 h5 h6 h7 h8 AB
end
open Go.ChangeShapes Go.WideShapes Go.ChangeAt
set_option linter.unusedSimpArgs false
def py:List (List UInt8):=[[98,117,99,107,101,116],[99,111,117,110,116],[115,117,109],[109,105,110],[109,97,120],[97,118,103],[102,105,114,115,116],[108,97,115,116]]
def mA:List Int:=[20,22,23,24,25,26,27,28]
def vY (l:List Int):Array Value:=(l.map fun o=>Value.int .u8 o).toArray
theorem vZ {x:List UInt8} {i:Nat}(hi:i < 8):∃y o,py[i]?=some y∧mA[i]?=some o∧(AO.drop i).lookup x=if x==y then some o else(AO.drop (i+1)).lookup x:=by rcases(by omega:i=0∨i=1∨i=2∨i=3∨i=4∨i=5∨i=6∨i=7)with rfl | rfl | rfl | rfl | rfl | rfl | rfl | rfl <;> refine⟨_,_,rfl,rfl,?_⟩<;> simp[AO,List.lookup,AL,EK,OH,OI,OJ,OL,EL,JO] <;> split <;> simp_all
set_option maxHeartbeats 1000000
set_option maxRecDepth 100000
theorem DL (ρ:cu)(w:World)(big:Bool)(t:Wd)(r:fA)(h:ρ.at w (.good (t::r)) big)(qA:xU t)(ho:(af bE (.good (t::r))).head cj=false):
  Calls Tryz.prog 140 #[ρ.ptr] w (dO ρ w big (ar 7) (.good (t::r))):=by
 have HO:=hid ho;clear ho;have Rk:=hid qA;have ir:=hid qA.p;have H1:=hid qA.wt;have H2:=hid qA.wf;have H3:=hid qA.wn;have H4:=hid qA.wo;clear qA;have cU:=h.qJ;have hb:=aa w iQ;have h0:=h.later hb;have HQ:=hid (ah.new w 34 #[.int .u8 0,.int .u8 0,.int .i64 0,.string ⟨#[]⟩,.string ⟨#[]⟩,.int .i64 0,.slice none 0 0]);have hsz:(w.alloc iQ).heap.size=w.heap.size+1:=by simp
 unfold iQ at*;unfold cu.ptr;obtain⟨tk,pl,bd,hpl,hlt,hsm,lV,aX,hg,wI,uN,hp⟩:=h0.mY;obtain⟨r',iO⟩:=hg _ rfl;have zq:t=tk.w:=by injection iO
 have qw:bd < 0:=by simpa [aF.dN] using aX
 subst zq;have Bl:=h0.left;have sF:=hp.later (aa _ jD);have tX:=hp.later ((aa _ (.cells (cm tk) 116)).drew);have hb3:=(aa (w.alloc (.cells #[.int .u8 0,.int .u8 0,.int .i64 0,.string ⟨#[]⟩,.string ⟨#[]⟩,.int .i64 0,.slice none 0 0] 34)) (.cells (cm tk) 116)).drew;have HT:=(ah.new (w.alloc (.cells #[.int .u8 0,.int .u8 0,.int .i64 0,.string ⟨#[]⟩,.string ⟨#[]⟩,.int .i64 0,.slice none 0 0] 34)) 116 (cm tk)).drew;rw[hsz] at HT;have HF:=hid (h0.later hb3);have HD:=hid ((dz.bH h hb).later hb3);have gC:=hid (HQ.out.later hb3);have sG:=(h0.later hb3).facts.2.2.2.2.1;have nd:((w.alloc (.cells #[.int .u8 0,.int .u8 0,.int .i64 0,.string ⟨#[]⟩,.string ⟨#[]⟩,.int .i64 0,.slice none 0 0] 34)).alloc (.cells (cm tk) 116)).drew.heap.size=w.heap.size+2:=by simp
 have e1:(pl:Int)+1=(ρ.n:Int) - r.length:=by rw[hpl];simp only[aF.left,List.length_cons] at*;omega
 have Bn:=hid hpl;clear h hpl hg aX lV iO h0 hb HQ;obtain⟨c0,c1,c2,d0,d1,d2,d3⟩:=hp;obtain⟨y0,y1,y2,z0,z1,z2,z3⟩:=sF;obtain⟨x0,x1,x2,v0,v1,v2,v3⟩:=tX;unfold jD at y0 y1 y2 z0 z1 z2 z3;go_enter Tryz.func140,Tryz.ntmps140;go_wp2_with fail;go_region;clear c0 c1 c2 d0 d1 d2 d3 y0 y1 y2 z0 z1 z2 z3 x0 v0 v1 v2 v3;obtain⟨u0,u1,u2,u3,_⟩:=aZ HT;have tZ:=hid HT;clear HT;unfold cm at u0 u1 u2 u3 hb3 x1 x2 sG HF tZ HD gC nd;generalize World.drew _=W at*;have n2:((tk.w.k:Int)==2)=false:=by rw[beq_eq_false_iff_ne];have:=ir.out.i;omega
 have n3:((tk.w.k:Int)==3)=false:=by rw[beq_eq_false_iff_ne];have:=ir.out.s;omega
 go_wp2_with fail;refine(cL ρ _ _ big HF.out ⟨#[116,114,117,101]⟩ (show(aF.good (tk.w::r)).head (⟨#[116,114,117,101]⟩:ByteArray).data.toList=false from H1.out)).mono ?_;rintro e w1 ⟨rfl,d1⟩;go_wp2_with fail;refine(cL ρ _ _ big d1.at_ ⟨#[102,97,108,115,101]⟩ (show(aF.good (tk.w::r)).head (⟨#[102,97,108,115,101]⟩:ByteArray).data.toList=false from H2.out)).mono ?_;rintro e w2 ⟨rfl,d2⟩;go_wp2_with fail;refine(cL ρ _ _ big d2.at_ ⟨#[110,117,108,108]⟩ (show(aF.good (tk.w::r)).head (⟨#[110,117,108,108]⟩:ByteArray).data.toList=false from H3.out)).mono ?_;rintro e w3 ⟨rfl,d3⟩;go_wp2_with fail;refine(cL ρ _ _ big d3.at_ ⟨#[40]⟩ (show(aF.good (tk.w::r)).head (⟨#[40]⟩:ByteArray).data.toList=false from H4.out)).mono ?_;rintro e w4 ⟨rfl,d4⟩;go_wp2_with fail;refine(oT ρ _ _ big d4.at_).mono ?_;rintro e w5 ⟨n,rfl,d5,xc⟩;have hat:=mZ Rk.out xc;have pO:=hid hat;have SD:=hid xc;clear hat xc;generalize pJ:af bE (aF.good (tk.w::r))=KF at*;have Fg:=hid pJ;clear pJ;go_wp2_with fail;have hwd:=jf ρ _ _ big d5.at_ ⟨#[40]⟩;rw[show KF.head (⟨#[40]⟩:ByteArray).data.toList=false from HO.out] at hwd;refine hwd.mono ?_;rintro e w6 ⟨rfl,b6⟩;have dd:=(((((HD.out.trans d1).trans d2).trans d3).trans d4).trans d5).later b6;have qB:=(d5.blk (d4.blk (d3.blk (d2.blk (d1.blk gC.out (by omega)) (by omega)) (by omega)) (by omega)) (by omega)).later b6;have XE:w.heap.size+2≤w6.heap.size:=by have:=d1.size;have:=d2.size;have:=d3.size;have:=d4.size;have:=d5.size;have:=b6.size;omega
 have Fh:=hid dd;have wb:=hid qB;clear dd qB d1 d2 d3 d4 d5 b6 hwd HF HD gC tZ u0 u1 u2 u3 x1 x2 sG hb3;have lT:=wb.out;have UB:=lT.lt;obtain⟨z0,z1,z2,z3,z4,z5,z6⟩:=bu lT;obtain⟨y0,y1,y2,y3,y4,y5,y6⟩:=aC lT;clear lT;go_wp2_with fail;have HP:=bA wb.out ⟨2,iM,n,0,none,0,0⟩;have HR:=ax HP;unfold cr iM at HR;obtain⟨r0,r1,r2,r3,r4,r5,r6⟩:=HR;refine bodyPost_ret (v:=iL ⟨2,iM,n,0,none,0,0⟩) ?_ rfl ?_
 ·simp[results,Tryz.results140,go_sem,r0,r1,r2,r3,r4,r5,r6];rfl
 ·obtain⟨k1,k2⟩:=Hc (n:=n) HO.out;refine bl (t:=jJ n) cU (Nat.le_refl _) ?_ (QP _ _ _) (pO.out.2 _ k2);rw[pO.out.1,k1];exact Fh.out
theorem Bw (ρ:cu)(w:World)(big:Bool)(t:Wd)(r:fA)(h:ρ.at w (.good (t::r)) big)(qA:xU t)(ho:(af bE (.good (t::r))).head cj=true)(hfn:∀n,au bE (.good (t::r)) n→fB n=none):
  Calls Tryz.prog 140 #[ρ.ptr] w (dO ρ w big (ar 7) (.good (t::r))):=by
 have HO:=hid ho;have UJ:=hid hfn;clear ho hfn;have Rk:=hid qA;have ir:=hid qA.p;have H1:=hid qA.wt;have H2:=hid qA.wf;have H3:=hid qA.wn;have H4:=hid qA.wo;clear qA;have cU:=h.qJ;have hb:=aa w iQ;have h0:=h.later hb;have HQ:=hid (ah.new w 34 #[.int .u8 0,.int .u8 0,.int .i64 0,.string ⟨#[]⟩,.string ⟨#[]⟩,.int .i64 0,.slice none 0 0]);have hsz:(w.alloc iQ).heap.size=w.heap.size+1:=by simp
 unfold iQ at*;unfold cu.ptr;obtain⟨tk,pl,bd,hpl,hlt,hsm,lV,aX,hg,wI,uN,hp⟩:=h0.mY;obtain⟨r',iO⟩:=hg _ rfl;have zq:t=tk.w:=by injection iO
 have qw:bd < 0:=by simpa [aF.dN] using aX
 subst zq;have Bl:=h0.left;have sF:=hp.later (aa _ jD);have tX:=hp.later ((aa _ (.cells (cm tk) 116)).drew);have hb3:=(aa (w.alloc (.cells #[.int .u8 0,.int .u8 0,.int .i64 0,.string ⟨#[]⟩,.string ⟨#[]⟩,.int .i64 0,.slice none 0 0] 34)) (.cells (cm tk) 116)).drew;have HT:=(ah.new (w.alloc (.cells #[.int .u8 0,.int .u8 0,.int .i64 0,.string ⟨#[]⟩,.string ⟨#[]⟩,.int .i64 0,.slice none 0 0] 34)) 116 (cm tk)).drew;rw[hsz] at HT;have HF:=hid (h0.later hb3);have HD:=hid ((dz.bH h hb).later hb3);have gC:=hid (HQ.out.later hb3);have sG:=(h0.later hb3).facts.2.2.2.2.1;have nd:((w.alloc (.cells #[.int .u8 0,.int .u8 0,.int .i64 0,.string ⟨#[]⟩,.string ⟨#[]⟩,.int .i64 0,.slice none 0 0] 34)).alloc (.cells (cm tk) 116)).drew.heap.size=w.heap.size+2:=by simp
 have e1:(pl:Int)+1=(ρ.n:Int) - r.length:=by rw[hpl];simp only[aF.left,List.length_cons] at*;omega
 have Bn:=hid hpl;clear h hpl hg aX lV iO h0 hb HQ;obtain⟨c0,c1,c2,d0,d1,d2,d3⟩:=hp;obtain⟨y0,y1,y2,z0,z1,z2,z3⟩:=sF;obtain⟨x0,x1,x2,v0,v1,v2,v3⟩:=tX;unfold jD at y0 y1 y2 z0 z1 z2 z3;go_enter Tryz.func140,Tryz.ntmps140;go_wp2_with fail;go_region;clear c0 c1 c2 d0 d1 d2 d3 y0 y1 y2 z0 z1 z2 z3 x0 v0 v1 v2 v3;obtain⟨u0,u1,u2,u3,_⟩:=aZ HT;have tZ:=hid HT;clear HT;unfold cm at u0 u1 u2 u3 hb3 x1 x2 sG HF tZ HD gC nd;generalize World.drew _=W at*;have n2:((tk.w.k:Int)==2)=false:=by rw[beq_eq_false_iff_ne];have:=ir.out.i;omega
 have n3:((tk.w.k:Int)==3)=false:=by rw[beq_eq_false_iff_ne];have:=ir.out.s;omega
 go_wp2_with fail;refine(cL ρ _ _ big HF.out ⟨#[116,114,117,101]⟩ (show(aF.good (tk.w::r)).head (⟨#[116,114,117,101]⟩:ByteArray).data.toList=false from H1.out)).mono ?_;rintro e w1 ⟨rfl,d1⟩;go_wp2_with fail;refine(cL ρ _ _ big d1.at_ ⟨#[102,97,108,115,101]⟩ (show(aF.good (tk.w::r)).head (⟨#[102,97,108,115,101]⟩:ByteArray).data.toList=false from H2.out)).mono ?_;rintro e w2 ⟨rfl,d2⟩;go_wp2_with fail;refine(cL ρ _ _ big d2.at_ ⟨#[110,117,108,108]⟩ (show(aF.good (tk.w::r)).head (⟨#[110,117,108,108]⟩:ByteArray).data.toList=false from H3.out)).mono ?_;rintro e w3 ⟨rfl,d3⟩;go_wp2_with fail;refine(cL ρ _ _ big d3.at_ ⟨#[40]⟩ (show(aF.good (tk.w::r)).head (⟨#[40]⟩:ByteArray).data.toList=false from H4.out)).mono ?_;rintro e w4 ⟨rfl,d4⟩;go_wp2_with fail;refine(oT ρ _ _ big d4.at_).mono ?_;rintro e w5 ⟨n,rfl,d5,xc⟩;have hat:=mZ Rk.out xc;have pO:=hid hat;have SD:=hid xc;clear hat xc;generalize pJ:af bE (aF.good (tk.w::r))=KF at*;have Fg:=hid pJ;clear pJ;go_wp2_with fail;have hwd:=jf ρ _ _ big d5.at_ ⟨#[40]⟩;rw[show KF.head (⟨#[40]⟩:ByteArray).data.toList=true from HO.out] at hwd;refine hwd.mono ?_;rintro e w6 ⟨rfl,b6⟩;have dd:=(((((HD.out.trans d1).trans d2).trans d3).trans d4).trans d5).later b6;have qB:=(d5.blk (d4.blk (d3.blk (d2.blk (d1.blk gC.out (by omega)) (by omega)) (by omega)) (by omega)) (by omega)).later b6;have XE:w.heap.size+2≤w6.heap.size:=by have:=d1.size;have:=d2.size;have:=d3.size;have:=d4.size;have:=d5.size;have:=b6.size;omega
 have Fh:=hid dd;have wb:=hid qB;clear dd qB d1 d2 d3 d4 d5 b6 hwd HF HD gC tZ u0 u1 u2 u3 x1 x2 sG hb3;have Ph:=UJ.out n SD.out;have Jp:=hid Ph;have Pj:n.toList=n.data.toList:=ByteArray.toList_eq n;have Pk:=hid Pj;clear Ph Pj;go_wp2_with fail;have Fi:=ae.then (aa w6 (.cells (aR py) 9)) (aa _ (.cells (vY mA) 5))
 have NB:=(ah.new w6 9 (aR py)).alloc (.cells (vY mA) 5);have OB:=ah.new (w6.alloc (.cells (aR py) 9)) 5 (vY mA);rw[World.size_alloc] at OB;have Pl:=hid (Fh.out.later Fi);have Bz:=hid (wb.out.later Fi);have UK:=Fi.size;have wZ:=hid NB;have Pm:=hid OB;clear NB OB Fi Fh wb;show Code.wp _ _ _ _ ((w6.alloc (.cells (aR py) 9)).alloc (.cells (vY mA) 5));generalize (w6.alloc (.cells (aR py) 9)).alloc (.cells (vY mA) 5)=W8 at*;generalize w6.heap.size=nb at*;go_loopw [8] (fun u wr=>∃i:Nat,i≤8∧u=.int .i64 i∧Below W8.heap.size W8 wr∧fB n=(AO.drop i).lookup n.data.toList) (fun u _=>8 - (intOf u).toNat);case atStart=>exact⟨0,Nat.zero_le _,rfl,Below.refl _ _,rfl⟩
 case round=>
  obtain⟨i,hi,rfl,kt,hlk⟩:=hrel;have zP:=hid hlk;have iZ:=hid kt;clear hlk kt;by_cases hlt:i < 8
  ·obtain⟨y,o,hy,oG,hstep⟩:=vZ (x:=n.data.toList) hlt;have HST:=hid hstep;have Ma:=hid oG;have c2:=oU (wZ.out.later iZ.out) hy;clear hy hstep oG;cases he:(n.data.toList==y)
   ·have HE:=hid he;have t1:(!y==n.toList)=true:=by rw[Pk.out];rw[beq_eq_false_iff_ne] at he;simp;exact fun e=>he e.symm
    clear he;go_wp2_with fail;go_roundw;case rel=>refine⟨i+1,by omega,by go_num,iZ.out,?_⟩;rw[zP.out,HST.out,HE.out];rfl
    case measure=>simp[intOf];omega
   ·have HE:=hid he;have t1:(!y==n.toList)=false:=by rw[Pk.out];rw[beq_iff_eq] at he;simp[he]
    have Ii:fB n=some o:=by rw[zP.out,HST.out,he];rfl
    clear he;rw[Jp.out] at Ii;cases Ii
  ·obtain rfl:i=8:=by omega
   have hno:fB n=none:=by rw[zP.out];rfl
   clear zP;go_wp2_with fail;refine(kS ρ _ _ big (Pl.out.later iZ.out).at_).mono ?_;rintro e w9 ⟨rfl,d9⟩;have lT:=d9.blk (Bz.out.later iZ.out) (by omega);have UB:=lT.lt;have L4:=hid ((Pl.out.later iZ.out).trans d9);have sJ:=hid lT;obtain⟨z0,z1,z2,z3,z4,z5,z6⟩:=bu lT;obtain⟨y0,y1,y2,y3,y4,y5,y6⟩:=aC lT;clear lT;go_wp2_with fail;have HP:=bA sJ.out ⟨0,iM,⟨#[]⟩,0,none,0,0⟩;have HR:=ax HP;unfold cr iM at HR;obtain⟨r0,r1,r2,r3,r4,r5,r6⟩:=HR;refine bodyPost_ret (v:=iL ⟨0,iM,⟨#[]⟩,0,none,0,0⟩) ?_ rfl ?_
   ·simp[results,Tryz.results140,go_sem,r0,r1,r2,r3,r4,r5,r6];rfl
   ·have k1:=DF HO.out hno;have k2:=pO.out.1;rw[k1] at k2;refine bl (t:=gH 0 []) cU (Nat.le_refl _) ?_ (Dl _ _ 0) (kn k2 _);rw[k2];exact L4.out
section
variable {W:Ps Tr} {σ:aF} {x y:Tr} {op k:Int}
theorem wh (LZ:op≠20)(ZM:op≠27)(ZN:op≠28)(hx:au W σ x):af (oh W op) σ=af (must aN) (af W σ)∧au (oh W op) σ (gH op [x]):=by
 have e1:lR op=pure 0:=by unfold lR;rw[if_neg LZ]
 have e2:jr W op=pure []:=by unfold jr;rw[if_neg (by omega)]
 unfold oh;rw[e1,e2];constructor
 ·rw[ay (aT _ _),bs,ay hx,ay (aT _ _),bs,ay (bF _ _)];exact bs _ _
 ·refine aj (aT _ _) ?_;rw[bs];refine aj hx (aj (aT _ _) ?_);exact aj (bF _ _) (aT _ _)
theorem Hd (L5:op≠22)(LZ:op≠20)(ZM:op≠27)(ZN:op≠28)(hx:au W σ x):af (iK W op) σ=af (must aN) (af W σ)∧au (iK W op) σ (gH op [x]):=by unfold iK;rw[if_neg L5];exact wh LZ ZM ZN hx
theorem He (hs:σ.head dZ=false)(hx:au W σ x):af (iK W 22) σ=af (must aN) (af W σ)∧au (iK W 22) σ (gH 22 [x]):=by
 unfold iK;rw[if_pos rfl];unfold countP;obtain⟨h1,h2⟩:=wh (op:=22) (by decide) (by decide) (by decide) hx;constructor
 ·rw[ay (aG dZ σ),hs,av hs];exact h1
 ·refine aj (aG dZ σ) ?_;rw[hs,av hs];exact h2
theorem KH (hs:σ.head dZ=true):af (iK W 22) σ=af (must aN) (.good σ.words.tail)∧au (iK W 22) σ (gH 21 []):=by
 unfold iK;rw[if_pos rfl];unfold countP;constructor
 ·rw[ay (aG dZ σ),hs,az hs];simp only[if_true];rw[ay (bF _ _)];exact bs _ _
 ·refine aj (aG dZ σ) ?_;rw[hs,az hs];exact aj (bF _ _) (aT _ _)
theorem DM (hk:au gu σ k)(hx:au W (af (must aU) (af gu σ)) x):af (iK W 20) σ=af (must aN) (af W (af (must aU) (af gu σ)))∧au (iK W 20) σ (.mk 20 fg ByteArray.empty k [x]):=by
 have e1:lR 20=(do let n ← gu;must aU;return n:Ps Int):=by unfold lR;rw[if_pos rfl]
 have e2:jr W 20=pure []:=by unfold jr;rw[if_neg (by decide)]
 have w1:af (lR 20) σ=af (must aU) (af gu σ)∧au (lR 20) σ k:=by
  rw[e1];constructor
  ·rw[ay hk,ay (bF _ _)];exact bs _ _
  ·exact aj hk (aj (bF _ _) (aT _ _))
 unfold iK;rw[if_neg (by decide)];unfold oh;rw[e2];constructor
 ·rw[ay w1.2,w1.1,ay hx,ay (aT _ _),bs,ay (bF _ _)];exact bs _ _
 ·refine aj w1.2 ?_;rw[w1.1];refine aj hx (aj (aT _ _) ?_);exact aj (bF _ _) (aT _ _)
theorem Nu (h2:op=27∨op=28)(hx:au W σ x)(hy:au W (af (must aU) (af W σ)) y):af (iK W op) σ=af (must aN) (af W (af (must aU) (af W σ)))∧au (iK W op) σ (gH op [x,y]):=by
 have e1:lR op=pure 0:=by unfold lR;rw[if_neg (by omega)]
 have e2:jr W op=(do must aU;let y ← W;return [y]:Ps (List Tr)):=by unfold jr;rw[if_pos h2]
 have w1:af (jr W op) (af W σ)=af W (af (must aU) (af W σ))∧au (jr W op) (af W σ) [y]:=by
  rw[e2];constructor
  ·rw[ay (bF _ _),ay hy];exact bs _ _
  ·exact aj (bF _ _) (aj hy (aT _ _))
 unfold iK;rw[if_neg (by omega)];unfold oh;rw[e1];constructor
 ·rw[ay (aT _ _),bs,ay hx,ay w1.2,w1.1,ay (bF _ _)];exact bs _ _
 ·refine aj (aT _ _) ?_;rw[bs];refine aj hx (aj w1.2 ?_);exact aj (bF _ _) (aT _ _)
end
theorem lJ:(Tryz.prog.info? 34).map (fun i=>(i.zero,i.size,i.bytes))=some (some (.agg #[.int .u8 0,.int .u8 0,.int .i64 0,.string ⟨#[]⟩,.string ⟨#[]⟩,.int .i64 0,.slice none 0 0]),7,88):=by kernel_rfl
def BA (ρ:cu)(p:Ps Tr)(σ:aF)(big:Bool)(y:Ex)(w w':World):Prop:=∃t,Tr.at_ w' (gf w.heap.size w') t y∧dz ρ w w' (af p σ) big∧au p σ t
theorem dz.own {ρ:cu} {W0 w w':World} {σ:aF} {big:Bool} {row:Option Nat}(h:dz ρ W0 w σ big)(hg:ρ.g < W0.heap.size)(k:w.grownBy w' row)(hr:∀G,row=some G→W0.heap.size≤G):dz ρ W0 w' σ big:=by
 have hl:=h.at_.lt;have hs:=h.size;have ng:some ρ.g≠row:=fun e=>by have:=hr _ e.symm;omega
 have nl:some ρ.gl≠row:=fun e=>by have:=hr _ e.symm;omega
 refine⟨⟨h.at_.blk.grown k ng,hl,fun j t ht=>?_,h.at_.of,h.at_.small,h.at_.Ku⟩,k.os.trans h.grown.os,k.tape.trans h.grown.tape,k.output.trans h.grown.output,Nat.le_trans hs k.size,fun i hi hne=>?_⟩
 ·have hc:=cell_of_heap (k.block ρ.gl (by omega) nl);obtain⟨h1,h2,h3,h4⟩:=h.at_.cell j t ht;exact⟨(hc _).trans h1,(hc _).trans h2,(hc _).trans h3,(hc _).trans h4⟩
 ·rw[k.block i (by omega) (fun e=>by have:=hr _ e.symm;omega)];exact h.grown.block i hi hne
theorem Fj {B:Nat} {w w':World} {row:Option Nat}(k:w.grownBy w' row)(G:Nat)(hr:∀g,row=some g→g=G):∀b,Bx B G w b→(∀o,w'.cell? ⟨b,o,none⟩=w.cell? ⟨b,o,none⟩)∧Bx B G w' b:=fun b hb=>
 ⟨cell_of_heap (k.block b hb.2.1 (fun e=>hb.2.2 (hr _ e.symm))),hb.1,Nat.lt_of_lt_of_le hb.2.1 k.size,hb.2.2⟩
theorem qC {α:Type} {f:α→List Value} {e:TypeId} {size:Nat}(hf:∀x,(f x).length=size) {w:World} {base:Nat} {v:Value} {l:List α}(h:aW f e size w base v l) {S:Nat→Prop}(hS:∀g,base≤g→g < w.heap.size→S g):
  ∃A c,v=.slice A l.length c∧RL f size w S A l:=by
 obtain⟨A,c,hv,_⟩:=h.reads;refine⟨A,c,hv,?_⟩
 match l,h,hv with
 | [],_,_=>exact .inl rfl
 | x::l,h,hv=>obtain⟨g,c',hv',hb,hlt,_⟩:=h.cell hf (k:=0) (x:=x) rfl;rw[hv] at hv';injection hv' with hA _ _;refine .inr ⟨g,0,hA,hS g hb hlt,fun i y j u hy hu=>?_⟩;obtain⟨g2,c2,hv2,_,_,hc⟩:=h.cell hf hy;rw[hv] at hv2;injection hv2 with MP _ _;rw[hA] at MP;injection MP with MP;injection MP with MP _ _;subst MP;rw[Nat.zero_add];exact hc j u hu
end Go.Proofs.YtfmbcoeallmnnaaGreatDoor.R
