/- Parts of the proof. -/
import Derived.Test.YtfmbcoeallmnnaaGreatDoorD28
namespace Go.Proofs.YtfmbcoeallmnnaaGreatDoor.R
open Go.Lib (hid)
open Go.RowKit
def wZ (u:Nat→Value)(ch:List Nat)(vs:List Value)(i:Nat)(_:World)(v:Value):Prop:=
 match ch.idxOf? i with
 | some k=>vs[k]?=some v
 | none=>v=u i
def fJ (l:List Oper):List Nat→Bool
 | a::b::r=>(match l[b]? with | some o=>eK o a | none=>false)&& fJ l (b::r)
 | _=>true
def sG (P:Program)(l:List Oper)(u:Nat→Value)(ch:List Nat)(G:List Value→World→Prop)(a0:Act)(i:Nat)(o:Oper):Prop:=
 ∀ρ w vs,fk ρ→G vs w→cL l (wZ u ch vs) a0.eval ρ w o (tmpsOf o)→o.guard=none∧
  match ch.idxOf? i with
  | none=>(execOp ρ o).run P w=.ok (.value (u i)) w
  | some k=>vs.length=k→nw P o ρ w fun v w'=>G (vs++ [v]) w'
def rb (P:Program)(l:List Oper)(u:Nat→Value)(ch:List Nat)(G:List Value→World→Prop)(a0:Act):List Oper→Nat→Prop
 | [],_=>True
 | o::rest,i=>sG P l u ch G a0 i o∧rb P l u ch G a0 rest (i+1)
theorem mP {P:Program} {L:List Oper} {u:Nat→Value} {ch:List Nat} {G:List Value→World→Prop} {a0:Act}:∀ {l:List Oper} {k:Nat},rb P L u ch G a0 l k→∀i o,l[i]?=some o→sG P L u ch G a0 (k+i) o
 | [],_,_,i,o,h=>by simp at h
 | x::l,k,hs,0,o,h=>by simp at h;subst h;exact hs.1
 | x::l,k,hs,i+1,o,h=>by have:=mP hs.2 i o (by simpa using h);rwa [show k+1+i=k+(i+1) by omega] at this
theorem oU {ch:List Nat} {i k:Nat}(h:ch.idxOf? i=some k):ch[k]?=some i:=by rw[List.idxOf?,List.findIdx?_eq_some_iff_getElem] at h;obtain⟨hk,h1,_⟩:=h;rw[List.getElem?_eq_getElem hk];simpa using h1
theorem oV {ch:List Nat} {i:Nat}(h:ch.idxOf? i=none):i∉ch:=by intro hm;rw[List.idxOf?,List.findIdx?_eq_none_iff] at h;have:=h i hm;simp at this
theorem FO {ch:List Nat}(hn:ch.Nodup) {i k:Nat}(h:ch[k]?=some i):ch.idxOf? i=some k:=by
 obtain⟨hk,he⟩:=List.getElem?_eq_some_iff.1 h;cases hc:ch.idxOf? i with
 | none=>exact absurd (List.mem_of_getElem? h) (oV hc)
 | some k'=>have h2:=oU hc;obtain⟨CC,M6⟩:=List.getElem?_eq_some_iff.1 h2;congr 1;exact(List.getElem_inj hn).1 (M6.trans he.symm)
theorem mQ {l:List Oper}:∀ {ch:List Nat} {k a b:Nat},fJ l ch=true→ch[k]?=some a→ch[k+1]?=some b→∃o,l[b]?=some o∧eK o a=true
 | [],_,_,_,_,h,_=>by simp at h
 | [x],0,_,_,_,_,h=>by simp at h
 | [x],_+1,_,_,_,h,_=>by simp at h
 | x::y::r,0,a,b,hc,h1,h2=>by
   simp at h1 h2;subst h1 h2;simp only[fJ,Bool.and_eq_true] at hc;have:=hc.1;split at this
   ·rename_i o ho;exact⟨o,ho,this⟩
   ·cases this
 | x::y::r,k+1,a,b,hc,h1,h2=>by simp only[fJ,Bool.and_eq_true] at hc;exact mQ hc.2 (by simpa using h1) (by simpa using h2)
theorem Inv.imp {l:List Oper} {V V':Nat→World→Value→Prop} {R:World→World→Prop} {a0:Act} {w0:World} {m:Nat} {listed:Array Bool} {a:Act} {w:World}(I:Inv l V R a0 w0 m listed a w)(h:∀i w v,V i w v→V' i w v):Inv l V' R a0 w0 m listed a w:=
 ⟨I.r,I.defers,I.size,I.old,fun i o d h1 h2 h3=>h _ _ _ (I.new i o d h1 h2 h3),I.closed,I.len,I.tail⟩
theorem xd {u:Nat→Value} {ch:List Nat} {vs:List Value}(v:Value)(i:Nat)(w:World)(x:Value)(h:wZ u ch vs i w x):wZ u ch (vs++ [v]) i w x:=by
 unfold wZ at*;cases hk:ch.idxOf? i with
 | some k=>rw[hk] at h;simp only at h ⊢;obtain⟨hlt,_⟩:=List.getElem?_eq_some_iff.1 h;rw[List.getElem?_append_left hlt];exact h
 | none=>rw[hk] at h;exact h
section
variable {P:Program} {l zs:List Oper} {Q:Exit→Act→World→Prop} {u:Nat→Value} {ch:List Nat} {G:List Value→World→Prop} {a0:Act} {w0:World}
theorem mR {N:Nat}(vs:List Value)(aZ:bX l N l 0=true)(hz:cH (l++zs) zs l.length=true) {listed:Array Bool} {a:Act} {w:World}(hf:cN (wZ u ch vs) (fun a w=>wpList P (l++zs).toArray Q zs a w) l 0 a0 w)(I:Inv l (wZ u ch vs) (fun _ _=>True) a0 w0 (l++zs).length listed a w)
  (h0:aG l.length listed=0):wpAny P .any (l++zs).toArray Q zs.length listed a w:=by
 have hall:=cq h0;have ha:a=fill (fun d=>a.eval (.tmp d)) l a0:=by
  have h1:a.tmps=(fill (fun d=>a.eval (.tmp d)) l a0).tmps:=by
   apply Array.ext_getElem?;intro t;by_cases ht:t < a0.tmps.size
   ·rw[iT _ _ _ _ ht];split
    ·simp[Act.eval,I.size,ht]
    ·rename_i hno;refine I.old t ?_;intro i o hi hd _;exact hno ⟨o,List.mem_of_getElem? hi,hd⟩
   ·rw[Array.getElem?_eq_none (by rw[I.size];omega),Array.getElem?_eq_none (by rw[gL];omega)]
  have h2:a.defers=(fill (fun d=>a.eval (.tmp d)) l a0).defers:=by rw[eC,I.defers]
  exact ny h1 h2
 have hK:=kX (V:=wZ u ch vs) (fun d=>a.eval (.tmp d)) l 0 a0 (fun i o d hi hd=>by
  rw[Nat.zero_add]
  have qz:i < l.length:=by
   rcases Nat.lt_or_ge i l.length with h' | h'
   ·exact h'
   ·rw[List.getElem?_eq_none h'] at hi;cases hi
  exact I.new i o d hi (hall i qz) hd) hf
 rw[← ha] at hK;refine iV aZ hz 0 zs rfl listed a w I.len ?_ hK;intro i hi;constructor
 ·intro hl;rcases Nat.lt_or_ge i l.length with h' | h'
  ·omega
  ·rw[I.tail i h'] at hl;cases hl
 ·intro hl;exact hall i (by omega)
theorem kK {id:Nat} {ops:List Oper}(zs:List Oper)(l:List Oper)(ow:ops=l++zs)(u:Nat→Value)(ch:List Nat)(G:List Value→World→Prop)(iW:∀vs w,G vs w→G vs w.drew)(hG:G [] w0)
  (hm:P.follows .mixedOrders=true) (aZ:bX l a0.tmps.size l 0=true) (hz:cH (l++zs) zs l.length=true) (hch:fJ l ch=true) (MW:ch.Nodup) (og:ch.all (fun i=>decide (i < l.length))=true)
  (hs:rb P l u ch G a0 l 0) (hf:∀vs w,vs.length=ch.length→G vs w→cN (wZ u ch vs) (fun a w=>wpList P ops.toArray Q zs a w) l 0 a0 w):(Code.region id ops.toArray true).wp P Q a0 w0:=by
 subst ow;have main:∀(fuel:Nat) (listed:Array Bool) (a:Act) (w:World) (vs:List Value),Inv l (wZ u ch vs) (fun _ _=>True) a0 w0 (l++zs).length listed a w→G vs w→(∀k i,ch[k]?=some i→(listed.getD i false=true↔k < vs.length))→vs.length≤ch.length→fuel=aG l.length listed+zs.length→wpAny P .any (l++zs).toArray Q fuel listed a w:=by
  intro fuel;induction fuel with
  | zero=>
    intro listed a w vs I hg dT Yz Mj;have h0:aG l.length listed=0:=by omega
    have hz0:zs.length=0:=by omega
    have hall:=cq h0;have JL:vs.length=ch.length:=by
     rcases Nat.lt_or_ge vs.length ch.length with h' | h'
     ·have hi:=List.getElem?_eq_getElem h';have hb:=of_decide_eq_true (List.all_eq_true.1 og _ (List.getElem_mem h'));have:=(dT _ _ hi).1 (hall _ hb);omega
     ·omega
    have:=mR vs aZ hz (hf vs w JL hg) I h0;rwa [hz0] at this
  | succ fuel ih=>
    intro listed a w vs I hg dT Yz Mj;by_cases h0:aG l.length listed=0
    ·have hall:=cq h0;have JL:vs.length=ch.length:=by
      rcases Nat.lt_or_ge vs.length ch.length with h' | h'
      ·have hi:=List.getElem?_eq_getElem h';have hb:=of_decide_eq_true (List.all_eq_true.1 og _ (List.getElem_mem h'));have:=(dT _ _ hi).1 (hall _ hb);omega
      ·omega
     have:=mR vs aZ hz (hf vs w JL hg) I h0;rwa [show zs.length=fuel+1 by omega] at this
    ·obtain⟨i0,qj,Jw⟩:=fp h0;obtain⟨i,⟨hi,hu⟩,wj⟩:=least (p:=fun i=>i < l.length∧listed.getD i false=false) i0 ⟨qj,Jw⟩;have jT:∀j,j < i→listed.getD j false=true:=fun j hj=>by
      cases hc:listed.getD j false with
      | true=>rfl
      | false=>exact absurd ⟨by omega,hc⟩ (wj j hj)
     have vI:l[i]?=some l[i]:=List.getElem?_eq_getElem hi;have kY:=aR aZ i _ vI;simp only[ew,Bool.and_eq_true,Nat.zero_add] at kY;have ee:i∈Region.ready .any (l++zs).toArray listed:=by
      refine iU (fW vI) ?_ fun j hj=>jT j (of_decide_eq_true (List.all_eq_true.1 kY.1.1.1 j hj))
      rw[cm (by rw[I.len];simp;omega)];exact hu
     refine⟨(fun hnil=>by rw[hnil] at ee;cases ee),fun j hj=>?_⟩;obtain⟨oH,oj,ig,hall⟩:=mem_ready.1 hj;have uH:j <(l++zs).length:=by
      rcases Nat.lt_or_ge j (l++zs).length with h' | h'
      ·exact h'
      ·rw[Array.getElem?_eq_none (by simpa using h')] at ig;cases ig
     rw[cm (by rw[I.len];exact uH)] at oH;have cZ:∀k∈cj oj,listed.getD k false=true:=fun k hk=>by obtain⟨e,he,hb,rfl⟩:=dY.1 hk;exact hall e he hb
     have AV:j < l.length:=by
      rcases Nat.lt_or_ge j l.length with h' | h'
      ·exact h'
      ·exfalso;have Fo:zs[j - l.length]?=some oj:=by
        have:(l++zs)[j]?=some oj:=by simpa using ig
        rw[List.getElem?_append_right (by omega)] at this;exact this
       have wh:=dE hz (j - l.length) oj Fo;rw[show l.length+(j - l.length)=j by omega] at wh;have hc:=dJ (L:=l++zs) (fun k=>listed.getD k false=true) (by
        intro k ok hk hd e he
        rcases Nat.lt_or_ge k l.length with wk | wk
        ·rw[List.getElem?_append_left wk] at hk
         exact I.closed k ok hk hd e he
        ·rw[I.tail k wk] at hd;cases hd) j (cj oj) wh.2 cZ i (by omega)
       rw[hu] at hc;cases hc
     have pH:l[j]?=some oj:=by
      have:(l++zs)[j]?=some oj:=by simpa using ig
      rw[List.getElem?_append_left AV] at this;exact this
     have hst:=mP hs j oj pH;rw[Nat.zero_add] at hst;have Hz:=Inv.reads aZ I pH oH cZ (tmpsOf oj) (fun _ h=>h);obtain⟨hgd,hstep⟩:=hst a.eval w vs (fU a) hg Hz;have MX:j < listed.size:=by rw[I.len];exact uH
     have Di:fuel=aG l.length (listed.setIfInBounds j true)+zs.length:=by have:=fo l.length listed j MX AV oH;omega
     unfold wpOp;rw[ig];show if Region.wanted oj (yielded (l++zs).toArray a.tmps)=true then _ else _
     rw[if_pos (by simp[Region.wanted,hgd])];refine .inl ?_;cases za:ch.idxOf? j with
     | none=>
       simp only[za] at hstep;refine eA (T:=fun v w'=>v=u j∧w'=w) (ai hstep ⟨rfl,rfl⟩) ?_;rintro v w' ⟨rfl,rfl⟩;refine ih _ _ _ vs (I.step aZ (fun _ _ _ _ h _=>h) (fun _ _ _ _ _=>trivial) pH uH oH cZ trivial ?_) hg ?_ Yz Di
       ·unfold wZ;simp only[za]
       ·intro k i' hk;have hne:i'≠j:=fun e=>oV za (e▸List.mem_of_getElem? hk)
        rw[cd _ _ _ MX,if_neg hne];exact dT k i' hk
     | some k=>
       simp only[za] at hstep;have FP:=oU za;have SS:vs.length=k:=by
        have h1:¬k < vs.length:=fun h=>by have:=(dT k j FP).2 h;rw[oH] at this;cases this
        match k,FP,h1 with
        | 0,_,h1=>omega
        | k+1,FP,h1=>
          obtain⟨Fp,_⟩:=List.getElem?_eq_some_iff.1 FP;have hp:ch[k]?=some ch[k]:=List.getElem?_eq_getElem (by omega);obtain⟨o',pI,he⟩:=mQ hch hp FP;rw[pH] at pI;injection pI with pI;subst pI
          have:=(dT k _ hp).1 (cZ _ (cY.1 he));omega
       refine eA (hstep SS) ?_;intro v w' Fs;have I':=(I.imp (fun i w x h=>xd (ch:=ch) (u:=u) v i w x h));refine ih _ _ _ (vs++ [v]) (I'.step aZ (fun _ _ _ _ h _=>h) (fun _ _ _ _ _=>trivial) pH uH oH cZ trivial ?_) Fs ?_ ?_ Di
       ·unfold wZ;simp only[za];rw[← SS];simp
       ·intro k' i' CC;rw[cd _ _ _ MX,List.length_append,List.length_singleton];by_cases Mk:i'=j
        ·subst Mk;have:=FO MW CC;rw[za] at this;injection this with this;simp only[if_true,true_iff];omega
        ·rw[if_neg Mk,dT k' i' CC];have hne:k'≠k:=fun e=>Mk (by rw[e,FP] at CC;injection CC with CC;exact CC.symm)
         omega
       ·obtain⟨Fp,_⟩:=List.getElem?_eq_some_iff.1 FP;simp;omega
 refine wp_region_any hm ?_;have:=main (l++zs).toArray.size (Array.replicate (l++zs).toArray.size false) a0 w0.drew [] ⟨trivial,rfl,rfl,fun _ _=>rfl,(fun i o d _ h=>by rw[aD] at h;cases h),(fun i o _ h=>by rw[aD] at h;cases h),by simp,fun i _=>aD _ _⟩ (iW _ _ hG) (fun k i _=>by rw[aD];simp) (by simp) (by
  have:aG l.length (Array.replicate (l++zs).toArray.size false)=l.length:=by
   unfold aG
   rw[List.filter_eq_self.2 (fun i _=>by rw[aD];rfl),List.length_range]
  rw[this];simp)
 exact this
end
set_option linter.unusedVariables false
theorem ae.cell {a b:World}(h:ae a b) {p:Addr}(hp:p.block < a.heap.size):b.cell? p=a.cell? p:=Below.cell h hp
theorem nT {a b:World} {row:Option Nat}(h:a.grownBy b row) {p:Addr}(hp:p.block < a.heap.size)(hr:some p.block≠row):b.cell? p=a.cell? p:=by unfold World.cell?;rw[h.block p.block hp hr]
def BQ (o0 o1 o2 o3 o4 o5 o6:Oper)(q d0 d1 d2 d3 d4 d5 d6:Tmp):Bool:=
 (tmpsOf o0== [q])&&(ed [o0,o1,o2,o3,o4,o5,o6] o0 q==none)&&(tmpsOf o1== [d0])&&(ed [o0,o1,o2,o3,o4,o5,o6] o1 d0==some 0)&&
 (tmpsOf o2== [0])&&(ed [o0,o1,o2,o3,o4,o5,o6] o2 0==none)&&(tmpsOf o3== [d2])&&(ed [o0,o1,o2,o3,o4,o5,o6] o3 d2==some 2)&&
 (tmpsOf o4== [d3])&&(ed [o0,o1,o2,o3,o4,o5,o6] o4 d3==some 3)&&(tmpsOf o5== [d1,d4])&&(ed [o0,o1,o2,o3,o4,o5,o6] o5 d1==some 1)&&(ed [o0,o1,o2,o3,o4,o5,o6] o5 d4==some 4)&&
 (tmpsOf o6== [q])&&(ed [o0,o1,o2,o3,o4,o5,o6] o6 q==none)&&
 (o0.dst==some d0)&&(o1.dst==some d1)&&(o2.dst==some d2)&&(o3.dst==some d3)&&(o4.dst==some d4)&&(o5.dst==some d5)&&(o6.dst==some d6)&&
 o0.guard.isNone && o1.guard.isNone && o2.guard.isNone && o3.guard.isNone && o4.guard.isNone && o5.guard.isNone && o6.guard.isNone
section
variable {P:Program} {β:Type} (f:β→List Value) (val:β→Value) (e:TypeId) (size base:Nat) (l:List β) (lv:Value) (Post:β→World→World→Prop) (w0:World)
def Jd:List Value→World→Prop
 | [],w=>ae w0 w
 | [a],w=>∃y w1 fT,a=val y∧ae w0 w1∧Post y w1 fT∧ae fT w
 | [a,s],w=>∃y w1 fT g0,a=val y∧s=.slice (some ⟨g0,0,none⟩) 1 1∧ae w0 w1∧Post y w1 fT∧ae fT w∧ag w g0 e (f y).toArray
 | [a,s,v],w=>∃y w1 fT w2,a=val y∧ae w0 w1∧Post y w1 fT∧ae fT w2∧aQ f e size w2 base lv l∧w2.grownBy w lv.ownBlock∧aQ f e size w base v (l++ [y])∧(lv=.slice none 0 0→l=[]→aQ f e size w w2.heap.size v [y])
 | _,_=>False
theorem GM (vs:List Value)(w:World)(h:Jd f val e size base l lv Post w0 vs w):Jd f val e size base l lv Post w0 vs w.drew:=by
 match vs,h with
 | [],h=>exact ae.trans h (ae.drew _)
 | [a],⟨y,w1,fT,h1,h2,h3,h4⟩=>exact⟨y,w1,fT,h1,h2,h3,h4.trans (ae.drew _)⟩
 | [a,s],⟨y,w1,fT,g0,h1,h2,h3,h4,h5,h6⟩=>exact⟨y,w1,fT,g0,h1,h2,h3,h4,h5.trans (ae.drew _),h6.drew⟩
 | [a,s,v],⟨y,w1,fT,w2,h1,h2,h3,h4,h5,h6,h7,h8⟩=>exact⟨y,w1,fT,w2,h1,h2,h3,h4,h5,⟨h6.os,h6.tape,h6.output,h6.size,h6.block⟩,h7.later (ae.drew _),fun a b=>(h8 a b).later (ae.drew _)⟩
 | _::_::_::_::_,h=>exact h.elim
variable {f val e size base l lv Post w0}
variable {Q:Exit→Act→World→Prop} {a0:Act} {id:Nat} {o0 o1 o2 o3 o4 o5 o6 o7:Oper} {q d0 d1 d2 d3 d4 d5 d6:Tmp} {qb k g:Nat} {pq ptr:Value} {F:FuncId} {args:Array Value}
theorem km (t ty:TypeId)(z:Value)(bytes:Nat)
  (hm:P.follows .mixedOrders=true) (aZ:bX [o0,o1,o2,o3,o4,o5,o6] a0.tmps.size [o0,o1,o2,o3,o4,o5,o6] 0=true) (hz:cH [o0,o1,o2,o3,o4,o5,o6,o7] [o7] 7=true) (hch:fJ [o0,o1,o2,o3,o4,o5,o6] [3,4,5]=true) (TF:BQ o0 o1 o2 o3 o4 o5 o6 q d0 d1 d2 d3 d4 d5 d6=true)
  (hq:a0.eval (.tmp q)=pq) (h0:a0.eval (.tmp 0)=ptr)
  (Xs:∀ρ w,ρ (.tmp q)=pq→(execOp ρ o0).run P w=.ok (.value (.pointer (some ⟨qb,k,none⟩))) w) (VL:∀ρ w,ρ (.tmp q)=pq→(execOp ρ o6).run P w=.ok (.value (.pointer (some ⟨qb,k,none⟩))) w)
  (P0:∀ρ w,ρ (.tmp d0)=.pointer (some ⟨qb,k,none⟩)→w.cell? ⟨qb,k,none⟩=some lv→(execOp ρ o1).run P w=.ok (.value lv) w)
  (Zx:∀ρ w,ρ (.tmp 0)=ptr→(execOp ρ o2).run P w=.ok (.value ptr) w)
  (dT:∀ρ w,fk ρ→ρ (.tmp d2)=ptr→(execOp ρ o3).run P w=.ok (.enter F args) w)
  (Ej:∀ρ w y,ρ (.tmp d3)=val y→(execOp ρ o4).run P w=.ok (.value (.slice (some ⟨w.heap.size,0,none⟩) 1 1)) (w.alloc (.cells (f y).toArray e)))
  (hap:∀ρ w s v' w',ρ (.tmp d1)=lv→ρ (.tmp d4)=s→(Builtin.append_ #[t,t] ty #[lv,s]).run P w=.ok v' w'→(execOp ρ o5).run P w=.ok (.value v') w')
  (ht:P.underlying t=some (.slice e)) (jV:(P.info? e).map (fun i=>(i.zero,i.size,i.bytes))=some (some z,size,bytes)) (hzs:z.cells.size=size) (hsz:0 < size) (hf:∀x,(f x).length=size) (h1:∀y,∀u∈f y,u.oneCell'=true)
  (hown:aQ f e size w0 base lv l) (hcell:w0.cell? ⟨qb,k,none⟩=some lv) (PR:qb≠g) (Oy:lv.ownBlock≠some g) (P5:lv.ownBlock≠some qb) (hlen:(l.length+1)*bytes≤140737488355328) (ld:l.length+1≤140737488355328) (hbase:base≤w0.heap.size)
  (ll:∀w,ae w0 w→Calls P F args w fun e w'=>∃y,e=.returned (val y)∧Post y w w') (P6:∀y w w',Post y w w'→w.grownBy w' (some g))
  (Oz:∀y s v' w1 fT w2 W,ae w0 w1→Post y w1 fT→ae fT w2→aQ f e size w2 base lv l→w2.grownBy W lv.ownBlock→aQ f e size W base v' (l++ [y])→(lv=.slice none 0 0→l=[]→aQ f e size W w2.heap.size v' [y])→W.cell? ⟨qb,k,none⟩=some lv→
    wpList P [o0,o1,o2,o3,o4,o5,o6,o7].toArray Q [o7] (((((((a0.put (some d0) (.pointer (some ⟨qb,k,none⟩))).put (some d1) lv).put (some d2) ptr).put (some d3) (val y)).put (some d4) s).put (some d5) v').put (some d6) (.pointer (some ⟨qb,k,none⟩))) W):
  (Code.region id [o0,o1,o2,o3,o4,o5,o6,o7].toArray true).wp P Q a0 w0:=by
 simp only[BQ,Bool.and_eq_true,beq_iff_eq,Option.isNone_iff_eq_none] at TF;obtain⟨⟨⟨⟨⟨⟨⟨⟨⟨⟨⟨⟨⟨⟨⟨⟨⟨⟨⟨⟨⟨⟨⟨⟨⟨⟨⟨⟨t0,s0⟩,t1⟩,s1⟩,t2⟩,s2⟩,t3⟩,s3⟩,t4⟩,s4⟩,t5⟩,s5⟩,P7⟩,t6⟩,s6⟩,e0⟩,e1⟩,e2⟩,e3⟩,e4⟩,e5⟩,e6⟩,g0⟩,g1⟩,g2⟩,g3⟩,g4⟩,g5⟩,g6⟩:=TF;have Lb:qb < w0.heap.size:=(by rcases Nat.lt_or_ge qb w0.heap.size with h | h;exact h;exact absurd hcell (by unfold World.cell?;rw[Array.getElem?_eq_none h];simp))
 -- the cell stays
 have tx:∀ {y w1 fT w},ae w0 w1→Post y w1 fT→ae fT w→w.cell? ⟨qb,k,none⟩=some lv∧aQ f e size w base lv l∧w0.heap.size≤w.heap.size:=by
  intro y w1 fT w ha hb hc;have hg:=P6 _ _ _ hb;have z1:qb < w1.heap.size:=Nat.lt_of_lt_of_le Lb ha.size;have z2:qb < fT.heap.size:=Nat.lt_of_lt_of_le z1 hg.size;refine⟨?_,?_,Nat.le_trans ha.size (Nat.le_trans hg.size hc.size)⟩
  ·rw[hc.cell (p:=⟨qb,k,none⟩) z2,nT hg (p:=⟨qb,k,none⟩) z1 (fun e=>PR (by injection e)),ha.cell (p:=⟨qb,k,none⟩) Lb];exact hcell
  ·exact((hown.later ha).grown hg Oy).later hc
 have yj:∀vs w,Jd f val e size base l lv Post w0 vs w→w.cell? ⟨qb,k,none⟩=some lv:=by
  intro vs w h
  match vs,h with
  | [],h=>rw[ae.cell h (p:=⟨qb,k,none⟩) Lb];exact hcell
  | [a],⟨y,w1,fT,_,h2,h3,h4⟩=>exact(tx h2 h3 h4).1
  | [a,s],⟨y,w1,fT,_,_,_,h2,h3,h4,_⟩=>exact(tx h2 h3 h4).1
  | [a,s,v],⟨y,w1,fT,w2,_,h2,h3,h4,_,h6,_,_⟩=>obtain⟨k1,_,k3⟩:=tx h2 h3 h4;rw[nT h6 (p:=⟨qb,k,none⟩) (Nat.lt_of_lt_of_le Lb k3) (fun e=>P5 e.symm)];exact k1
  | _::_::_::_::_,h=>exact h.elim
 refine kK [o7] [o0,o1,o2,o3,o4,o5,o6] rfl (fun i=>if i=0 then .pointer (some ⟨qb,k,none⟩)else if i=1 then lv else if i=2 then ptr else .pointer (some ⟨qb,k,none⟩)) [3,4,5] (Jd f val e size base l lv Post w0) (GM f val e size base l lv Post w0) (ae.refl w0) hm aZ hz hch (by decide) rfl ?_ ?_
 ·refine⟨?_,?_,?_,?_,?_,?_,?_,trivial⟩
  ·intro ρ w vs hc hG hr;rw[t0] at hr;have r0:=hr.1;simp only[s0] at r0;exact⟨g0,Xs ρ w (r0.trans hq)⟩
  ·intro ρ w vs hc hG hr;rw[t1] at hr;have r0:=hr.1;simp only[s1] at r0;exact⟨g1,P0 ρ w r0 (yj _ _ hG)⟩
  ·intro ρ w vs hc hG hr;rw[t2] at hr;have r0:=hr.1;simp only[s2] at r0;exact⟨g2,Zx ρ w (r0.trans h0)⟩
  ·intro ρ w vs hc hG hr;rw[t3] at hr;have r0:=hr.1;simp only[s3] at r0;refine⟨g3,?_⟩;show vs.length=0→_;intro hl;obtain rfl:=List.eq_nil_of_length_eq_zero hl;refine fZ (dT ρ w hc r0) ((ll w hG).mono ?_);rintro e' w' ⟨y,rfl,hp⟩;exact⟨_,rfl,y,w,w',rfl,hG,hp,ae.refl _⟩
  ·intro ρ w vs hc hG hr;rw[t4] at hr;have r0:=hr.1;simp only[s4] at r0;refine⟨g4,?_⟩;show vs.length=1→_;intro hl
   match vs,hl with
   | [a],_=>have r0:some a=some (ρ (.tmp d3)):=r0;injection r0 with r0;obtain⟨y,w1,fT,ha,h2,h3,h4⟩:=hG;refine ai (Ej ρ w y (r0.symm.trans ha)) ?_;exact⟨y,w1,fT,w.heap.size,ha,rfl,h2,h3,h4.trans ((Below.refl _ _).alloc (Nat.le_refl _) _),ag.new w e _⟩
  ·intro ρ w vs hc hG hr;rw[t5] at hr;have r0:=hr.1;have r1:=hr.2.1;simp only[s5] at r0;simp only[P7] at r1;refine⟨g5,?_⟩;show vs.length=2→_;intro hl
   match vs,hl with
   | [a,s],_=>
     have r1:some s=some (ρ (.tmp d4)):=r1;injection r1 with r1;obtain⟨y,w1,fT,gg,ha,hs,h2,h3,h4,h5⟩:=hG;obtain⟨k1,k2,k3⟩:=tx h2 h3 h4;obtain⟨v',w',hrun,ho,UD⟩:=ei (P:=P) (w:=w) t ty z bytes ht jV hzs hsz hf (h1 y) k2 gg h5 hlen ld (Nat.le_trans hbase k3);refine ai (hap ρ w _ v' w' r0 (r1.symm.trans hs) hrun) ⟨y,w1,fT,w,ha,h2,h3,h4,k2,UD.grown,ho,?_⟩;intro hlv hl0;subst hl0;have k4:aQ f e size w w.heap.size lv ([]:List β):=by rw[hlv];exact aQ.nil
     obtain⟨v2,LY,TG,oL,_⟩:=ei (P:=P) (w:=w) t ty z bytes ht jV hzs hsz hf (h1 y) k4 gg h5 hlen ld (Nat.le_refl _);rw[hrun] at TG;injection TG with e1 e2;rw[e1,e2];exact oL
  ·intro ρ w vs hc hG hr;rw[t6] at hr;have r0:=hr.1;simp only[s6] at r0;exact⟨g6,VL ρ w (r0.trans hq)⟩
 ·intro vs w hl hG;have Dm:=yj _ _ hG
  match vs,hl with
  | [a,s,v],_=>obtain⟨y,w1,fT,w2,ha,h2,h3,h4,h5,h6,h7,h8⟩:=hG;simp only[cN,e0,e1,e2,e3,e4,e5,e6];intro Zy p0 a1 p1 a2 p2 a3 p3 a4 p4 a5 p5 a6 p6;have z0:Zy=.pointer (some ⟨qb,k,none⟩):=p0;have z1:a1=lv:=p1;have z2:a2=ptr:=p2;have z3:some a=some a3:=p3;have z4:some s=some a4:=p4;have z5:some v=some a5:=p5;have z6:a6=.pointer (some ⟨qb,k,none⟩):=p6;injection z3 with z3;injection z4 with z4;injection z5 with z5;rw[z0,z1,z2,← z3,← z4,← z5,z6,ha];exact Oz y s v w1 fT w2 w h2 h3 h4 h5 h6 h7 h8 Dm
end
open Go.ChangeShapes Go.WideShapes Go.ChangeAt
set_option linter.unusedSimpArgs false
def qs:List (List UInt8):=[[98,117,99,107,101,116],[99,111,117,110,116],[115,117,109],[109,105,110],[109,97,120],[97,118,103],[102,105,114,115,116],[108,97,115,116]]
def nj:List Int:=[20,22,23,24,25,26,27,28]
def yl (l:List Int):Array Value:=(l.map fun o=>Value.int .u8 o).toArray
theorem ym {x:List UInt8} {i:Nat}(hi:i < 8):∃y o,qs[i]?=some y∧nj[i]?=some o∧(Dz.drop i).lookup x=if x==y then some o else(Dz.drop (i+1)).lookup x:=by rcases(by omega:i=0∨i=1∨i=2∨i=3∨i=4∨i=5∨i=6∨i=7)with rfl | rfl | rfl | rfl | rfl | rfl | rfl | rfl <;> refine⟨_,_,rfl,rfl,?_⟩<;> simp[Dz,List.lookup,Dy,IE,Th,Ti,Tj,Tk,IG,NC] <;> split <;> simp_all
set_option maxHeartbeats 1000000
set_option maxRecDepth 100000
theorem GN (ρ:cB)(w:World)(big:Bool)(t:Wd)(r:fN)(h:ρ.at w (.good (t::r)) big)(rF:Au t)(ho:(af bL (.good (t::r))).head cp=false):
  Calls Tryz.prog 140 #[ρ.ptr] w (dS ρ w big (aq 7) (.good (t::r))):=by
 have HO:=hid ho;clear ho;have VM:=hid rF;have iR:=hid rF.p;have H1:=hid rF.wt;have H2:=hid rF.wf;have H3:=hid rF.wn;have H4:=hid rF.wo;clear rF;have dh:=h.rP;have hb:=aa w jn;have h0:=h.later hb;have HQ:=hid (ag.new w 34 #[.int .u8 0,.int .u8 0,.int .i64 0,.string ⟨#[]⟩,.string ⟨#[]⟩,.int .i64 0,.slice none 0 0]);have hsz:(w.alloc jn).heap.size=w.heap.size+1:=by simp
 unfold jn at*;unfold cB.ptr;obtain⟨tk,pl,bd,hpl,hlt,hsm,mE,bh,hg,yM,rQ,hp⟩:=h0.nQ;obtain⟨r',jl⟩:=hg _ rfl;have BO:t=tk.w:=by injection jl
 have rD:bd < 0:=by simpa [aH.dR] using bh
 subst BO;have Eb:=h0.left;have uj:=hp.later (aa _ kh);have vB:=hp.later ((aa _ (.cells (cr tk) 116)).drew);have hb3:=(aa (w.alloc (.cells #[.int .u8 0,.int .u8 0,.int .i64 0,.string ⟨#[]⟩,.string ⟨#[]⟩,.int .i64 0,.slice none 0 0] 34)) (.cells (cr tk) 116)).drew;have HT:=(ag.new (w.alloc (.cells #[.int .u8 0,.int .u8 0,.int .i64 0,.string ⟨#[]⟩,.string ⟨#[]⟩,.int .i64 0,.slice none 0 0] 34)) 116 (cr tk)).drew;rw[hsz] at HT;have HF:=hid (h0.later hb3);have HD:=hid ((dH.bP h hb).later hb3);have gU:=hid (HQ.out.later hb3);have uk:=(h0.later hb3).facts.2.2.2.2.1;have nS:((w.alloc (.cells #[.int .u8 0,.int .u8 0,.int .i64 0,.string ⟨#[]⟩,.string ⟨#[]⟩,.int .i64 0,.slice none 0 0] 34)).alloc (.cells (cr tk) 116)).drew.heap.size=w.heap.size+2:=by simp
 have e1:(pl:Int)+1=(ρ.n:Int) - r.length:=by rw[hpl];simp only[aH.left,List.length_cons] at*;omega
 have Ec:=hid hpl;clear h hpl hg bh mE jl h0 hb HQ;obtain⟨c0,c1,c2,d0,d1,d2,d3⟩:=hp;obtain⟨y0,y1,y2,z0,z1,z2,z3⟩:=uj;obtain⟨x0,x1,x2,v0,v1,v2,v3⟩:=vB;unfold kh at y0 y1 y2 z0 z1 z2 z3;go_enter Tryz.func140,Tryz.ntmps140;go_wp2_with fail;go_region;clear c0 c1 c2 d0 d1 d2 d3 y0 y1 y2 z0 z1 z2 z3 x0 v0 v1 v2 v3;obtain⟨u0,u1,u2,u3,_⟩:=bl HT;have vD:=hid HT;clear HT;unfold cr at u0 u1 u2 u3 hb3 x1 x2 uk HF vD HD gU nS;generalize World.drew _=W at*;have n2:((tk.w.k:Int)==2)=false:=by rw[beq_eq_false_iff_ne];have:=iR.out.i;omega
 have n3:((tk.w.k:Int)==3)=false:=by rw[beq_eq_false_iff_ne];have:=iR.out.s;omega
 go_wp2_with fail;refine(cT ρ _ _ big HF.out ⟨#[116,114,117,101]⟩ (show(aH.good (tk.w::r)).head (⟨#[116,114,117,101]⟩:ByteArray).data.toList=false from H1.out)).mono ?_;rintro e w1 ⟨rfl,d1⟩;go_wp2_with fail;refine(cT ρ _ _ big d1.at_ ⟨#[102,97,108,115,101]⟩ (show(aH.good (tk.w::r)).head (⟨#[102,97,108,115,101]⟩:ByteArray).data.toList=false from H2.out)).mono ?_;rintro e w2 ⟨rfl,d2⟩;go_wp2_with fail;refine(cT ρ _ _ big d2.at_ ⟨#[110,117,108,108]⟩ (show(aH.good (tk.w::r)).head (⟨#[110,117,108,108]⟩:ByteArray).data.toList=false from H3.out)).mono ?_;rintro e w3 ⟨rfl,d3⟩;go_wp2_with fail;refine(cT ρ _ _ big d3.at_ ⟨#[40]⟩ (show(aH.good (tk.w::r)).head (⟨#[40]⟩:ByteArray).data.toList=false from H4.out)).mono ?_;rintro e w4 ⟨rfl,d4⟩;go_wp2_with fail;refine(pU ρ _ _ big d4.at_).mono ?_;rintro e w5 ⟨n,rfl,d5,zq⟩;have hat:=nR VM.out zq;have qM:=hid hat;have Xt:=hid zq;clear hat zq;generalize qH:af bL (aH.good (tk.w::r))=OA at*;have Je:=hid qH;clear qH;go_wp2_with fail;have hwd:=jE ρ _ _ big d5.at_ ⟨#[40]⟩;rw[show OA.head (⟨#[40]⟩:ByteArray).data.toList=false from HO.out] at hwd;refine hwd.mono ?_;rintro e w6 ⟨rfl,b6⟩;have dd:=(((((HD.out.trans d1).trans d2).trans d3).trans d4).trans d5).later b6;have rG:=(d5.blk (d4.blk (d3.blk (d2.blk (d1.blk gU.out (by omega)) (by omega)) (by omega)) (by omega)) (by omega)).later b6;have P8:w.heap.size+2≤w6.heap.size:=by have:=d1.size;have:=d2.size;have:=d3.size;have:=d4.size;have:=d5.size;have:=b6.size;omega
 have Jf:=hid dd;have yo:=hid rG;clear dd rG d1 d2 d3 d4 d5 b6 hwd HF HD gU vD u0 u1 u2 u3 x1 x2 uk hb3;have mA:=yo.out;have Zs:=mA.lt;obtain⟨z0,z1,z2,z3,z4,z5,z6⟩:=bA mA;obtain⟨y0,y1,y2,y3,y4,y5,y6⟩:=aF mA;clear mA;go_wp2_with fail;have HP:=bI yo.out ⟨2,jk,n,0,none,0,0⟩;have HR:=aS HP;unfold cz jk at HR;obtain⟨r0,r1,r2,r3,r4,r5,r6⟩:=HR;refine bodyPost_ret (v:=ji ⟨2,jk,n,0,none,0,0⟩) ?_ rfl ?_
 ·simp[results,Tryz.results140,go_sem,r0,r1,r2,r3,r4,r5,r6];rfl
 ·obtain⟨k1,k2⟩:=Lf (n:=n) HO.out;refine bu (t:=eF n) dh (Nat.le_refl _) ?_ (Vt _ _ _) (qM.out.2 _ k2);rw[qM.out.1,k1];exact Jf.out
theorem Ek (ρ:cB)(w:World)(big:Bool)(t:Wd)(r:fN)(h:ρ.at w (.good (t::r)) big)(rF:Au t)(ho:(af bL (.good (t::r))).head cp=true)(hfn:∀n,au bL (.good (t::r)) n→fO n=none):
  Calls Tryz.prog 140 #[ρ.ptr] w (dS ρ w big (aq 7) (.good (t::r))):=by
 have HO:=hid ho;have Zz:=hid hfn;clear ho hfn;have VM:=hid rF;have iR:=hid rF.p;have H1:=hid rF.wt;have H2:=hid rF.wf;have H3:=hid rF.wn;have H4:=hid rF.wo;clear rF;have dh:=h.rP;have hb:=aa w jn;have h0:=h.later hb;have HQ:=hid (ag.new w 34 #[.int .u8 0,.int .u8 0,.int .i64 0,.string ⟨#[]⟩,.string ⟨#[]⟩,.int .i64 0,.slice none 0 0]);have hsz:(w.alloc jn).heap.size=w.heap.size+1:=by simp
 unfold jn at*;unfold cB.ptr;obtain⟨tk,pl,bd,hpl,hlt,hsm,mE,bh,hg,yM,rQ,hp⟩:=h0.nQ;obtain⟨r',jl⟩:=hg _ rfl;have BO:t=tk.w:=by injection jl
 have rD:bd < 0:=by simpa [aH.dR] using bh
 subst BO;have Eb:=h0.left;have uj:=hp.later (aa _ kh);have vB:=hp.later ((aa _ (.cells (cr tk) 116)).drew);have hb3:=(aa (w.alloc (.cells #[.int .u8 0,.int .u8 0,.int .i64 0,.string ⟨#[]⟩,.string ⟨#[]⟩,.int .i64 0,.slice none 0 0] 34)) (.cells (cr tk) 116)).drew;have HT:=(ag.new (w.alloc (.cells #[.int .u8 0,.int .u8 0,.int .i64 0,.string ⟨#[]⟩,.string ⟨#[]⟩,.int .i64 0,.slice none 0 0] 34)) 116 (cr tk)).drew;rw[hsz] at HT;have HF:=hid (h0.later hb3);have HD:=hid ((dH.bP h hb).later hb3);have gU:=hid (HQ.out.later hb3);have uk:=(h0.later hb3).facts.2.2.2.2.1;have nS:((w.alloc (.cells #[.int .u8 0,.int .u8 0,.int .i64 0,.string ⟨#[]⟩,.string ⟨#[]⟩,.int .i64 0,.slice none 0 0] 34)).alloc (.cells (cr tk) 116)).drew.heap.size=w.heap.size+2:=by simp
 have e1:(pl:Int)+1=(ρ.n:Int) - r.length:=by rw[hpl];simp only[aH.left,List.length_cons] at*;omega
 have Ec:=hid hpl;clear h hpl hg bh mE jl h0 hb HQ;obtain⟨c0,c1,c2,d0,d1,d2,d3⟩:=hp;obtain⟨y0,y1,y2,z0,z1,z2,z3⟩:=uj;obtain⟨x0,x1,x2,v0,v1,v2,v3⟩:=vB;unfold kh at y0 y1 y2 z0 z1 z2 z3;go_enter Tryz.func140,Tryz.ntmps140;go_wp2_with fail;go_region;clear c0 c1 c2 d0 d1 d2 d3 y0 y1 y2 z0 z1 z2 z3 x0 v0 v1 v2 v3;obtain⟨u0,u1,u2,u3,_⟩:=bl HT;have vD:=hid HT;clear HT;unfold cr at u0 u1 u2 u3 hb3 x1 x2 uk HF vD HD gU nS;generalize World.drew _=W at*;have n2:((tk.w.k:Int)==2)=false:=by rw[beq_eq_false_iff_ne];have:=iR.out.i;omega
 have n3:((tk.w.k:Int)==3)=false:=by rw[beq_eq_false_iff_ne];have:=iR.out.s;omega
 go_wp2_with fail;refine(cT ρ _ _ big HF.out ⟨#[116,114,117,101]⟩ (show(aH.good (tk.w::r)).head (⟨#[116,114,117,101]⟩:ByteArray).data.toList=false from H1.out)).mono ?_;rintro e w1 ⟨rfl,d1⟩;go_wp2_with fail;refine(cT ρ _ _ big d1.at_ ⟨#[102,97,108,115,101]⟩ (show(aH.good (tk.w::r)).head (⟨#[102,97,108,115,101]⟩:ByteArray).data.toList=false from H2.out)).mono ?_;rintro e w2 ⟨rfl,d2⟩;go_wp2_with fail;refine(cT ρ _ _ big d2.at_ ⟨#[110,117,108,108]⟩ (show(aH.good (tk.w::r)).head (⟨#[110,117,108,108]⟩:ByteArray).data.toList=false from H3.out)).mono ?_;rintro e w3 ⟨rfl,d3⟩;go_wp2_with fail;refine(cT ρ _ _ big d3.at_ ⟨#[40]⟩ (show(aH.good (tk.w::r)).head (⟨#[40]⟩:ByteArray).data.toList=false from H4.out)).mono ?_;rintro e w4 ⟨rfl,d4⟩;go_wp2_with fail;refine(pU ρ _ _ big d4.at_).mono ?_;rintro e w5 ⟨n,rfl,d5,zq⟩;have hat:=nR VM.out zq;have qM:=hid hat;have Xt:=hid zq;clear hat zq;generalize qH:af bL (aH.good (tk.w::r))=OA at*;have Je:=hid qH;clear qH;go_wp2_with fail;have hwd:=jE ρ _ _ big d5.at_ ⟨#[40]⟩;rw[show OA.head (⟨#[40]⟩:ByteArray).data.toList=true from HO.out] at hwd;refine hwd.mono ?_;rintro e w6 ⟨rfl,b6⟩;have dd:=(((((HD.out.trans d1).trans d2).trans d3).trans d4).trans d5).later b6;have rG:=(d5.blk (d4.blk (d3.blk (d2.blk (d1.blk gU.out (by omega)) (by omega)) (by omega)) (by omega)) (by omega)).later b6;have P8:w.heap.size+2≤w6.heap.size:=by have:=d1.size;have:=d2.size;have:=d3.size;have:=d4.size;have:=d5.size;have:=b6.size;omega
 have Jf:=hid dd;have yo:=hid rG;clear dd rG d1 d2 d3 d4 d5 b6 hwd HF HD gU vD u0 u1 u2 u3 x1 x2 uk hb3;have TH:=Zz.out n Xt.out;have RM:=hid TH;have TI:n.toList=n.data.toList:=ByteArray.toList_eq n;have TJ:=hid TI;clear TH TI;go_wp2_with fail;have Jg:=ae.then (aa w6 (.cells (aV qs) 9)) (aa _ (.cells (yl nj) 5))
 have NB:=(ag.new w6 9 (aV qs)).alloc (.cells (yl nj) 5);have OB:=ag.new (w6.alloc (.cells (aV qs) 9)) 5 (yl nj);rw[World.size_alloc] at OB;have TK:=hid (Jf.out.later Jg);have Em:=hid (yo.out.later Jg);have ZA:=Jg.size;have zo:=hid NB;have TL:=hid OB;clear NB OB Jg Jf yo;show Code.wp _ _ _ _ ((w6.alloc (.cells (aV qs) 9)).alloc (.cells (yl nj) 5));generalize (w6.alloc (.cells (aV qs) 9)).alloc (.cells (yl nj) 5)=W8 at*;generalize w6.heap.size=nb at*;go_loopw [8] (fun u wr=>∃i:Nat,i≤8∧u=.int .i64 i∧Below W8.heap.size W8 wr∧fO n=(Dz.drop i).lookup n.data.toList) (fun u _=>8 - (intOf u).toNat);case atStart=>exact⟨0,Nat.zero_le _,rfl,Below.refl _ _,rfl⟩
 case round=>
  obtain⟨i,hi,rfl,mD,hlk⟩:=hrel;have Cs:=hid hlk;have jx:=hid mD;clear hlk mD;by_cases hlt:i < 8
  ·obtain⟨y,o,hy,pI,hstep⟩:=ym (x:=n.data.toList) hlt;have HST:=hid hstep;have Qb:=hid pI;have c2:=pV (zo.out.later jx.out) hy;clear hy hstep pI;cases he:(n.data.toList==y)
   ·have HE:=hid he;have t1:(!y==n.toList)=true:=by rw[TJ.out];rw[beq_eq_false_iff_ne] at he;simp;exact fun e=>he e.symm
    clear he;go_wp2_with fail;go_roundw;case rel=>refine⟨i+1,by omega,by go_num,jx.out,?_⟩;rw[Cs.out,HST.out,HE.out];rfl
    case measure=>simp[intOf];omega
   ·have HE:=hid he;have t1:(!y==n.toList)=false:=by rw[TJ.out];rw[beq_iff_eq] at he;simp[he]
    have LZ:fO n=some o:=by rw[Cs.out,HST.out,he];rfl
    clear he;rw[RM.out] at LZ;cases LZ
  ·obtain rfl:i=8:=by omega
   have hno:fO n=none:=by rw[Cs.out];rfl
   clear Cs;go_wp2_with fail;refine(lM ρ _ _ big (TK.out.later jx.out).at_).mono ?_;rintro e w9 ⟨rfl,d9⟩;have mA:=d9.blk (Em.out.later jx.out) (by omega);have Zs:=mA.lt;have HD9:=hid ((TK.out.later jx.out).trans d9);have uq:=hid mA;obtain⟨z0,z1,z2,z3,z4,z5,z6⟩:=bA mA;obtain⟨y0,y1,y2,y3,y4,y5,y6⟩:=aF mA;clear mA;go_wp2_with fail;have HP:=bI uq.out ⟨0,jk,⟨#[]⟩,0,none,0,0⟩;have HR:=aS HP;unfold cz jk at HR;obtain⟨r0,r1,r2,r3,r4,r5,r6⟩:=HR;refine bodyPost_ret (v:=ji ⟨0,jk,⟨#[]⟩,0,none,0,0⟩) ?_ rfl ?_
   ·simp[results,Tryz.results140,go_sem,r0,r1,r2,r3,r4,r5,r6];rfl
   ·have k1:=GJ HO.out hno;have k2:=qM.out.1;rw[k1] at k2;refine bu (t:=gZ 0 []) dh (Nat.le_refl _) ?_ (Gq _ _ 0) (kP k2 _);rw[k2];exact HD9.out
section
variable {W:Ps Tr} {σ:aH} {x y:Tr} {op k:Int}
theorem yq (Qa:op≠20)(h27:op≠27)(h28:op≠28)(hx:au W σ x):af (pn W op) σ=af (must aP) (af W σ)∧au (pn W op) σ (gZ op [x]):=by
 have e1:my op=pure 0:=by unfold my;rw[if_neg Qa]
 have e2:jO W op=pure []:=by unfold jO;rw[if_neg (by omega)]
 unfold pn;rw[e1,e2];constructor
 ·rw[az (aW _ _),bz,az hx,az (aW _ _),bz,az (bM _ _)];exact bz _ _
 ·refine aj (aW _ _) ?_;rw[bz];refine aj hx (aj (aW _ _) ?_);exact aj (bM _ _) (aW _ _)
theorem Lg (h22:op≠22)(Qa:op≠20)(h27:op≠27)(h28:op≠28)(hx:au W σ x):af (jh W op) σ=af (must aP) (af W σ)∧au (jh W op) σ (gZ op [x]):=by unfold jh;rw[if_neg h22];exact yq Qa h27 h28 hx
theorem Lh (hs:σ.head ek=false)(hx:au W σ x):af (jh W 22) σ=af (must aP) (af W σ)∧au (jh W 22) σ (gZ 22 [x]):=by
 unfold jh;rw[if_pos rfl];unfold countP;obtain⟨h1,h2⟩:=yq (op:=22) (by decide) (by decide) (by decide) hx;constructor
 ·rw[az (aI ek σ),hs,aw hs];exact h1
 ·refine aj (aI ek σ) ?_;rw[hs,aw hs];exact h2
theorem OC (hs:σ.head ek=true):af (jh W 22) σ=af (must aP) (.good σ.words.tail)∧au (jh W 22) σ (gZ 21 []):=by
 unfold jh;rw[if_pos rfl];unfold countP;constructor
 ·rw[az (aI ek σ),hs,aB hs];simp only[if_true];rw[az (bM _ _)];exact bz _ _
 ·refine aj (aI ek σ) ?_;rw[hs,aB hs];exact aj (bM _ _) (aW _ _)
theorem GQ (hk:au gQ σ k)(hx:au W (af (must aX) (af gQ σ)) x):af (jh W 20) σ=af (must aP) (af W (af (must aX) (af gQ σ)))∧au (jh W 20) σ (.mk 20 fu ByteArray.empty k [x]):=by
 have e1:my 20=(do let n ← gQ;must aX;return n:Ps Int):=by unfold my;rw[if_pos rfl]
 have e2:jO W 20=pure []:=by unfold jO;rw[if_neg (by decide)]
 have w1:af (my 20) σ=af (must aX) (af gQ σ)∧au (my 20) σ k:=by
  rw[e1];constructor
  ·rw[az hk,az (bM _ _)];exact bz _ _
  ·exact aj hk (aj (bM _ _) (aW _ _))
 unfold jh;rw[if_neg (by decide)];unfold pn;rw[e2];constructor
 ·rw[az w1.2,w1.1,az hx,az (aW _ _),bz,az (bM _ _)];exact bz _ _
 ·refine aj w1.2 ?_;rw[w1.1];refine aj hx (aj (aW _ _) ?_);exact aj (bM _ _) (aW _ _)
theorem RN (h2:op=27∨op=28)(hx:au W σ x)(hy:au W (af (must aX) (af W σ)) y):af (jh W op) σ=af (must aP) (af W (af (must aX) (af W σ)))∧au (jh W op) σ (gZ op [x,y]):=by
 have e1:my op=pure 0:=by unfold my;rw[if_neg (by omega)]
 have e2:jO W op=(do must aX;let y ← W;return [y]:Ps (List Tr)):=by unfold jO;rw[if_pos h2]
 have w1:af (jO W op) (af W σ)=af W (af (must aX) (af W σ))∧au (jO W op) (af W σ) [y]:=by
  rw[e2];constructor
  ·rw[az (bM _ _),az hy];exact bz _ _
  ·exact aj (bM _ _) (aj hy (aW _ _))
 unfold jh;rw[if_neg (by omega)];unfold pn;rw[e1];constructor
 ·rw[az (aW _ _),bz,az hx,az w1.2,w1.1,az (bM _ _)];exact bz _ _
 ·refine aj (aW _ _) ?_;rw[bz];refine aj hx (aj w1.2 ?_);exact aj (bM _ _) (aW _ _)
end
theorem mn:(Tryz.prog.info? 34).map (fun i=>(i.zero,i.size,i.bytes))=some (some (.agg #[.int .u8 0,.int .u8 0,.int .i64 0,.string ⟨#[]⟩,.string ⟨#[]⟩,.int .i64 0,.slice none 0 0]),7,88):=by kernel_rfl
def En (ρ:cB)(p:Ps Tr)(σ:aH)(big:Bool)(y:Ex)(w w':World):Prop:=∃t,Tr.at_ w' (gK w.heap.size w') t y∧dH ρ w w' (af p σ) big∧au p σ t
theorem dH.own {ρ:cB} {W0 w w':World} {σ:aH} {big:Bool} {row:Option Nat}(h:dH ρ W0 w σ big)(hg:ρ.g < W0.heap.size)(k:w.grownBy w' row)(hr:∀G,row=some G→W0.heap.size≤G):dH ρ W0 w' σ big:=by
 have hl:=h.at_.lt;have hs:=h.size;have ng:some ρ.g≠row:=fun e=>by have:=hr _ e.symm;omega
 have nl:some ρ.gl≠row:=fun e=>by have:=hr _ e.symm;omega
 refine⟨⟨h.at_.blk.grown k ng,hl,fun j t ht=>?_,h.at_.of,h.at_.small,h.at_.Oo⟩,k.os.trans h.grown.os,k.tape.trans h.grown.tape,k.output.trans h.grown.output,Nat.le_trans hs k.size,fun i hi hne=>?_⟩
 ·have hc:=cell_of_heap (k.block ρ.gl (by omega) nl);obtain⟨h1,h2,h3,h4⟩:=h.at_.cell j t ht;exact⟨(hc _).trans h1,(hc _).trans h2,(hc _).trans h3,(hc _).trans h4⟩
 ·rw[k.block i (by omega) (fun e=>by have:=hr _ e.symm;omega)];exact h.grown.block i hi hne
theorem Jh {B:Nat} {w w':World} {row:Option Nat}(k:w.grownBy w' row)(G:Nat)(hr:∀g,row=some g→g=G):∀b,Bx B G w b→(∀o,w'.cell? ⟨b,o,none⟩=w.cell? ⟨b,o,none⟩)∧Bx B G w' b:=fun b hb=>
 ⟨cell_of_heap (k.block b hb.2.1 (fun e=>hb.2.2 (hr _ e.symm))),hb.1,Nat.lt_of_lt_of_le hb.2.1 k.size,hb.2.2⟩
theorem rH {α:Type} {f:α→List Value} {e:TypeId} {size:Nat}(hf:∀x,(f x).length=size) {w:World} {base:Nat} {v:Value} {l:List α}(h:aQ f e size w base v l) {S:Nat→Prop}(hS:∀g,base≤g→g < w.heap.size→S g):
  ∃A c,v=.slice A l.length c∧RL f size w S A l:=by
 obtain⟨A,c,hv,_⟩:=h.reads;refine⟨A,c,hv,?_⟩
 match l,h,hv with
 | [],_,_=>exact .inl rfl
 | x::l,h,hv=>obtain⟨g,c',hv',hb,hlt,_⟩:=h.cell hf (k:=0) (x:=x) rfl;rw[hv] at hv';injection hv' with hA _ _;refine .inr ⟨g,0,hA,hS g hb hlt,fun i y j u hy hu=>?_⟩;obtain⟨g2,c2,hv2,_,_,hc⟩:=h.cell hf hy;rw[hv] at hv2;injection hv2 with Ra _ _;rw[hA] at Ra;injection Ra with Ra;injection Ra with Ra _ _;subst Ra;rw[Nat.zero_add];exact hc j u hu
end Go.Proofs.YtfmbcoeallmnnaaGreatDoor.R
