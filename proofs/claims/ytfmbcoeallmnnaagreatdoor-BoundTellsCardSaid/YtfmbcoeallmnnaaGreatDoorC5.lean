/- Parts of the proof. -/
import Derived.Test.YtfmbcoeallmnnaaGreatDoorC4
namespace Go.Proofs.YtfmbcoeallmnnaaGreatDoor
open Go.Lib (hid)
open Go.RowKit
def Ep (P:Program)(l:List Oper)(R:World→World→Prop)(V:Nat→World→Value→Prop)(U:Nat→World→(Operand→Value)→Prop)(a0:Act)(w0:World)(i:Nat)(o:Oper):Prop:=
 ∀ρ w,eX ρ→R w0 w→cD l V a0.eval ρ w o (tmpsOf o)→
  match o.guard with
  | none=>mE P o ρ w fun v w'=>R w w'∧V i w' v∧U i w' ρ
  | some _=>False
def yy (P:Program)(l:List Oper)(R:World→World→Prop)(V:Nat→World→Value→Prop)(U:Nat→World→(Operand→Value)→Prop)(a0:Act)(w0:World):List Oper→Nat→Prop
 | [],_=>True
 | o::rest,i=>Ep P l R V U a0 w0 i o∧yy P l R V U a0 w0 rest (i+1)
theorem xj {P:Program} {L:List Oper} {R:World→World→Prop} {V:Nat→World→Value→Prop} {U:Nat→World→(Operand→Value)→Prop} {a0:Act} {w0:World}:∀ {l:List Oper} {k:Nat},yy P L R V U a0 w0 l k→∀i o,l[i]?=some o→Ep P L R V U a0 w0 (k+i) o
 | [],_,_,i,o,h=>by simp at h
 | o'::rest,k,hs,0,o,h=>by simp at h;subst h;exact hs.1
 | o'::rest,k,hs,i+1,o,h=>by have:=xj hs.2 i o (by simpa using h);rwa [show k+(i+1)=k+1+i by omega]
def zX (l:List Oper)(R:World→World→Prop)(U:Nat→World→(Operand→Value)→Prop):Prop:=
 ∀i o w w' ρ ρ',l[i]?=some o→U i w ρ→R w w'→(∀j∈bZ o,∀oj d,l[j]?=some oj→oj.dst=some d→ρ' (.tmp d)=ρ (.tmp d))→U i w' ρ'
structure Inv2 (l:List Oper) (V:Nat→World→Value→Prop) (U:Nat→World→(Operand→Value)→Prop) (R:World→World→Prop) (a0:Act) (w0:World) (m:Nat) (listed:Array Bool) (a:Act) (w:World):Prop where
 base:Inv l V R a0 w0 m listed a w
 post:∀i o,l[i]?=some o→listed.getD i false=true→U i w a.eval
section
variable {P:Program} {l zs:List Oper} {Q:Exit→Act→World→Prop} {R:World→World→Prop} {V:Nat→World→Value→Prop} {U:Nat→World→(Operand→Value)→Prop} {a0:Act} {w0:World}
theorem Inv2.step (aS:bR l a0.tmps.size l 0=true)(hV:∀i w w' v,V i w v→R w w'→V i w' v)(hU:zX l R U)(hrefl:∀w,R w w)(hT:∀a b c,R a b→R b c→R a c) {m:Nat} {listed:Array Bool} {a:Act} {w w':World} {v:Value}(I:Inv2 l V U R a0 w0 m listed a w) {i:Nat} {o:Oper}(ho:l[i]?=some o)(yr:i < m)
  (yq:listed.getD i false=false) (hall:∀j∈bZ o,listed.getD j false=true) (hr:R w w') (hv:V i w' v) (hu:U i w' a.eval):Inv2 l V U R a0 w0 m (listed.setIfInBounds i true) (a.put o.dst v) w':=by
 refine⟨I.base.step aS hV hT ho yr yq hall hr hv,?_⟩;have pA:i < listed.size:=by rw[I.base.len];exact yr
 have dx:=aO aS i o ho;rw[Nat.zero_add] at dx;have keep:∀j d oj,l[j]?=some oj→oj.dst=some d→j≠i→(a.put o.dst v).eval (.tmp d)=a.eval (.tmp d):=by
  intro j d oj hj hd sU;refine Act.eval_put fun d' PI e=>?_
  injection e with e;subst e;have fJ:=aO aS j oj hj;simp only[eh,hd,Bool.and_eq_true,Nat.zero_add,beq_iff_eq] at fJ;simp only[eh,PI,Bool.and_eq_true,beq_iff_eq] at dx;rw[fJ.1.1.2.2] at dx;have:=dx.1.1.2.2;injection this with this;exact sU this
 intro j oj hj hl;by_cases sU:j=i
 ·subst sU;rw[hj] at ho;injection ho with ho;subst ho
  refine hU j oj w' w' a.eval _ hj hu (hrefl _) fun k hk ok d pQ hd=>keep k d ok pQ hd ?_
  intro e;subst e;have:=hall k hk;rw[yq] at this;cases this
 ·have hl':listed.getD j false=true:=by rw[bT _ _ _ pA,if_neg sU] at hl;exact hl
  refine hU j oj w w' a.eval _ hj (I.post j oj hj hl') hr fun k hk ok d pQ hd=>keep k d ok pQ hd ?_
  intro e;subst e;have:=I.base.closed j oj hj hl' k hk;rw[yq] at this;cases this
theorem xk {N:Nat}(aS:bR l N l 0=true)(hz:cF (l++zs) zs l.length=true)(hf:∀w,R w0 w→dr V (fun a w=>(∀i o,l[i]?=some o→U i w a.eval)→wpList P (l++zs).toArray Q zs a w) l 0 a0 w) {listed:Array Bool} {a:Act} {w:World}(I2:Inv2 l V U R a0 w0 (l++zs).length listed a w)
  (h0:aD l.length listed=0):wpAny P .any (l++zs).toArray Q zs.length listed a w:=by
 have I:=I2.base;have hall:=ck h0;have ha:a=fill (fun d=>a.eval (.tmp d)) l a0:=by
  have h1:a.tmps=(fill (fun d=>a.eval (.tmp d)) l a0).tmps:=by
   apply Array.ext_getElem?;intro t;by_cases ht:t < a0.tmps.size
   ·rw[iu _ _ _ _ ht];split
    ·simp[Act.eval,I.size,ht]
    ·rename_i hno;refine I.old t ?_;intro i o hi hd _;exact hno ⟨o,List.mem_of_getElem? hi,hd⟩
   ·rw[Array.getElem?_eq_none (by rw[I.size];omega),Array.getElem?_eq_none (by rw[gh];omega)]
  have h2:a.defers=(fill (fun d=>a.eval (.tmp d)) l a0).defers:=by rw[et,I.defers]
  exact mH h1 h2
 have hK:=kz (V:=V) (fun d=>a.eval (.tmp d)) l 0 a0 (fun i o d hi hd=>by
  rw[Nat.zero_add]
  have pA:i < l.length:=by
   rcases Nat.lt_or_ge i l.length with h' | h'
   ·exact h'
   ·rw[List.getElem?_eq_none h'] at hi;cases hi
  exact I.new i o d hi (hall i pA) hd) (hf w I.r)
 rw[← ha] at hK;replace hK:=hK fun i o hi=>I2.post i o hi (hall i (by
  rcases Nat.lt_or_ge i l.length with h' | h'
  ·exact h'
  ·rw[List.getElem?_eq_none h'] at hi;cases hi))
 refine ix aS hz 0 zs rfl listed a w I.len ?_ hK;intro i hi;constructor
 ·intro hl;rcases Nat.lt_or_ge i l.length with h' | h'
  ·omega
  ·rw[I.tail i h'] at hl;cases hl
 ·intro hl;exact hall i (by omega)
theorem yz {id:Nat} {ops:List Oper}(zs:List Oper)(l:List Oper)(nA:ops=l++zs)(R:World→World→Prop)(hrefl:∀w,R w w)(pP:∀a b c,R a b→R b c→R a c)(iy:∀w,R w w.drew)
  (V:Nat→World→Value→Prop) (U:Nat→World→(Operand→Value)→Prop) (hU:zX l R U) (hV:∀i w w' v,V i w v→R w w'→V i w' v) (hm:P.follows .mixedOrders=true) (aS:bR l a0.tmps.size l 0=true) (hz:cF (l++zs) zs l.length=true)
  (hs:yy P l R V U a0 w0 l 0) (hf:∀w,R w0 w→dr V (fun a w=>(∀i o,l[i]?=some o→U i w a.eval)→wpList P ops.toArray Q zs a w) l 0 a0 w):(Code.region id ops.toArray true).wp P Q a0 w0:=by
 subst nA;have main:∀(fuel:Nat) (listed:Array Bool) (a:Act) (w:World),Inv2 l V U R a0 w0 (l++zs).length listed a w→fuel=aD l.length listed+zs.length→wpAny P .any (l++zs).toArray Q fuel listed a w:=by
  intro fuel;induction fuel with
  | zero=>
    intro listed a w I2 Iw;have I:=I2.base;have h0:aD l.length listed=0:=by omega
    have hz0:zs.length=0:=by omega
    have:=xk aS hz hf I2 h0;rwa [hz0] at this
  | succ fuel ih=>
    intro listed a w I2 Iw;have I:=I2.base;by_cases h0:aD l.length listed=0
    ·have:=xk aS hz hf I2 h0;rwa [show zs.length=fuel+1 by omega] at this
    ·obtain⟨i0,pj,Fz⟩:=fc h0;obtain⟨i,⟨hi,hu⟩,uE⟩:=least (p:=fun i=>i < l.length∧listed.getD i false=false) i0 ⟨pj,Fz⟩;have kA:∀j,j < i→listed.getD j false=true:=fun j hj=>by
      cases hc:listed.getD j false with
      | true=>rfl
      | false=>exact absurd ⟨by omega,hc⟩ (uE j hj)
     have ug:l[i]?=some l[i]:=List.getElem?_eq_getElem hi;have kB:=aO aS i _ ug;simp only[eh,Bool.and_eq_true,Nat.zero_add] at kB;have dY:i∈Region.ready .any (l++zs).toArray listed:=by
      refine iw (fI ug) ?_ fun j hj=>kA j (of_decide_eq_true (List.all_eq_true.1 kB.1.1.1 j hj))
      rw[cg (by rw[I.len];simp;omega)];exact hu
     refine⟨(fun hnil=>by rw[hnil] at dY;cases dY),fun j hj=>?_⟩;obtain⟨nI,oj,gK,hall⟩:=mem_ready.1 hj;have sV:j <(l++zs).length:=by
      rcases Nat.lt_or_ge j (l++zs).length with h' | h'
      ·exact h'
      ·rw[Array.getElem?_eq_none (by simpa using h')] at gK;cases gK
     rw[cg (by rw[I.len];exact sV)] at nI;have cO:∀k∈bZ oj,listed.getD k false=true:=fun k hk=>by obtain⟨e,he,hb,rfl⟩:=dV.1 hk;exact hall e he hb
     have yt:j < l.length:=by
      rcases Nat.lt_or_ge j l.length with h' | h'
      ·exact h'
      ·exfalso;have Cs:zs[j - l.length]?=some oj:=by
        have:(l++zs)[j]?=some oj:=by simpa using gK
        rw[List.getElem?_append_right (by omega)] at this;exact this
       have uD:=dw hz (j - l.length) oj Cs;rw[show l.length+(j - l.length)=j by omega] at uD;have hc:=dC (L:=l++zs) (fun k=>listed.getD k false=true) (by
        intro k ok hk hd e he
        rcases Nat.lt_or_ge k l.length with uF | uF
        ·rw[List.getElem?_append_left uF] at hk
         exact I.closed k ok hk hd e he
        ·rw[I.tail k uF] at hd;cases hd) j (bZ oj) uD.2 cO i (by omega)
       rw[hu] at hc;cases hc
     have oF:l[j]?=some oj:=by
      have:(l++zs)[j]?=some oj:=by simpa using gK
      rw[List.getElem?_append_left yt] at this;exact this
     have hst:=xj hs j oj oF;rw[Nat.zero_add] at hst;have En:=Inv.reads aS I oF nI cO (tmpsOf oj) (fun _ h=>h);have hstep:=hst a.eval w (fG a) I.r En;have qL:∀v w',R w w'→V j w' v→U j w' a.eval→wpAny P .any (l++zs).toArray Q fuel (listed.setIfInBounds j true) (a.put oj.dst v) w':=by intro v w' hr hv hu;refine ih _ _ _ (I2.step aS hV hU hrefl pP oF sV nI cO hr hv hu) ?_;have:=eZ l.length listed j (by rw[I.len];exact sV) yt nI;omega
     unfold wpOp;rw[gK];show if Region.wanted oj (yielded (l++zs).toArray a.tmps)=true then _ else _
     cases hg:oj.guard with
     | none=>rw[if_pos (by simp[Region.wanted,hg])];simp only[hg] at hstep;exact .inl (ej hstep fun v w' h=>qL v w' h.1 h.2.1 h.2.2)
     | some g=>simp only[hg] at hstep
 refine wp_region_any hm ?_;have h0:R w0 w0.drew:=iy w0;have:=main (l++zs).toArray.size (Array.replicate (l++zs).toArray.size false) a0 w0.drew ⟨⟨h0,rfl,rfl,fun _ _=>rfl,(fun i o d _ h=>by rw[aB] at h;cases h),(fun i o _ h=>by rw[aB] at h;cases h),by simp,fun i _=>aB _ _⟩,fun i o _ h=>by rw[aB] at h;cases h⟩ (by
  have:aD l.length (Array.replicate (l++zs).toArray.size false)=l.length:=by
   unfold aD
   rw[List.filter_eq_self.2 (fun i _=>by rw[aB];rfl),List.length_range]
  rw[this];simp)
 exact this
end
open Go.ChangeShapes Go.WideShapes Go.ChangeAt
set_option linter.unusedVariables false
set_option linter.unusedSimpArgs false
def gL (op:Int):Bool:=decide (3≤op∧op≤20)
def ey (a wa gi:Int)(al nu:Bool)(d:Value):Array Value:= #[.int .i64 a,.int .u8 wa,.int .u8 gi,.bool al,.bool nu,d]
def kF:Array Value:= #[.int .i64 0,.int .u8 0,.int .u8 0,.bool false,.bool false,.nilFunc]
def pU (w:World)(op:Int)(o:Array Value):Prop:=(gL op=true∧iB w op.toNat (.agg o))∨(gL op=false∧o=kF)
theorem iB.shape {w:World} {k:Nat} {v:Value}(h:iB w k v):∃a wa gi al nu F C,(a=1∨a=2)∧v=.agg (ey a wa gi al nu (.func F #[] C)):=by
 unfold iB at h;split at h;all_goals first
  | exact⟨_,_,_,_,_,_,_,.inl rfl,h⟩
  |(obtain⟨q,h1,_⟩:=h;exact⟨_,_,_,_,_,_,_,.inl rfl,h1⟩)
  |(obtain⟨q,h1,_⟩:=h;exact⟨_,_,_,_,_,_,_,.inr rfl,h1⟩)
  |(obtain⟨q,q2,h1,_⟩:=h;exact⟨_,_,_,_,_,_,_,.inr rfl,h1⟩)
  | exact h.elim
theorem pU.shape {w:World} {op:Int} {o:Array Value}(h:pU w op o):∃a wa gi al nu d,o=ey a wa gi al nu d∧(gL op=true→a≠0)∧(d=.nilFunc∨∃F C,d=.func F #[] C):=by
 rcases h with ⟨h1,h2⟩|⟨h1,rfl⟩
 ·obtain⟨a,wa,gi,al,nu,F,C,ha,e⟩:=h2.shape;injection e with e;exact⟨a,wa,gi,al,nu,_,e,fun _=>by omega,.inr ⟨F,C,rfl⟩⟩
 ·exact⟨0,0,0,false,false,.nilFunc,rfl,(fun h=>by rw[h1] at h;cases h),.inl rfl⟩
theorem iB.zY {w w':World}(hk:∀(q:Nat) (t:TypeId) (cs:Array Value),t≠76→ah w q t cs→ah w' q t cs):∀(k:Nat) (v:Value),iB w k v→iB w' k v:=by
 intro k v h;unfold iB at*;split at h;all_goals first
  | exact h
  |(obtain⟨q,q2,h1,h2,h3⟩:=h;exact⟨q,q2,h1,hk _ _ _ (by decide) h2,hk _ _ _ (by decide) h3⟩)
  |(obtain⟨q,h1,h2⟩:=h;exact⟨q,h1,hk _ _ _ (by decide) h2⟩)
theorem pU.zY {w w':World} {op:Int} {o:Array Value}(hk:∀(q:Nat) (t:TypeId) (cs:Array Value),t≠76→ah w q t cs→ah w' q t cs)(h:pU w op o):pU w' op o:=by
 rcases h with ⟨h1,h2⟩| h1
 ·exact .inl ⟨h1,h2.zY hk⟩
 ·exact .inr h1
structure FR (op:Int) (B:Nat) (a b:World):Prop where
 below:Below B a b
 blk:∀(g:Nat) (t:TypeId) (cs:Array Value),ah a g t cs→ah b g t cs∨(t=76∧B≤g∧∃o:Array Value,pU b op o∧ah b g t o)
 map:∀(g:Nat) (es:Array MapEntry) (c:Nat),a.heap[g]?=some (Obj.map es c)→b.heap[g]?=some (Obj.map es c)
theorem FR.refl (op:Int)(B:Nat)(w:World):FR op B w w:=⟨Below.refl _ _,fun _ _ _ h=> .inl h,fun _ _ _ h=>h⟩
theorem FR.other {op:Int} {B:Nat} {a b:World}(h:FR op B a b) {g:Nat} {t:TypeId} {cs:Array Value}(hb:ah a g t cs)(ht:t≠76):ah b g t cs:=by
 rcases h.blk g t cs hb with h1 |⟨h1,_⟩
 ·exact h1
 ·exact absurd h1 ht
theorem iB.fr {op:Int} {B:Nat} {a b:World}(h:FR op B a b)(k:Nat)(v:Value)(hk:iB a k v):iB b k v:=hk.zY (fun q t cs ht hq=>h.other hq ht) _ _
theorem pU.fr {op:Int} {B:Nat} {a b:World} {VK:Int} {o:Array Value}(h:FR op B a b)(ho:pU a VK o):pU b VK o:=ho.zY fun q t cs ht hq=>h.other hq ht
theorem FR.trans {op:Int} {B:Nat} {a b c:World}(h:FR op B a b)(k:FR op B b c):FR op B a c:=by
 refine⟨h.below.trans k.below,fun g t cs hb=>?_,fun g es c hb=>k.map _ _ _ (h.map _ _ _ hb)⟩;rcases h.blk g t cs hb with h1 |⟨h1,h2,o,h3,h4⟩
 ·exact k.blk g t cs h1
 ·rcases k.blk g t o h4 with h6 | h6
  ·exact .inr ⟨h1,h2,o,h3.fr k,h6⟩
  ·exact .inr h6
theorem FR.later {op:Int} {B:Nat} {a b:World}(h:Below a.heap.size a b)(hB:B≤a.heap.size):FR op B a b:=
 ⟨h.mono hB,fun g t cs hb=> .inl (hb.later h),fun g es c hb=>by
   rw[h.block g ?_]
   ·exact hb
   ·rcases Nat.lt_or_ge g a.heap.size with h' | h'
    ·exact h'
    ·rw[Array.getElem?_eq_none h'] at hb;cases hb⟩
theorem pU.later {a b:World} {op:Int} {o:Array Value}(ho:pU a op o)(h:Below a.heap.size a b):pU b op o:=ho.fr (op:=0) (FR.later h (Nat.le_refl _))
def lg (op:Int):Int:=if op=3∨op=4∨18≤op then 1 else 2
theorem iB.args {w:World} {k:Nat} {a wa gi:Int} {al nu:Bool} {d:Value}(h:iB w k (.agg (ey a wa gi al nu d))):a=lg k:=by
 unfold iB at h;split at h;all_goals first
  | exact h.elim
  |(simp[jW,ey] at h;simp[lg];omega)
  |(obtain⟨q,q2,h1,_⟩:=h;simp[jW,ey] at h1;simp[lg];omega)
  |(obtain⟨q,h1,_⟩:=h;simp[jW,ey] at h1;simp[lg];omega)
theorem pU.args {w:World} {op a wa gi:Int} {al nu:Bool} {d:Value}(h:pU w op (ey a wa gi al nu d))(ho:gL op=true):a=lg op:=by
 rcases h with ⟨_,h2⟩|⟨h1,_⟩
 ·have h3:3≤op∧op≤20:=by simpa [gL] using ho
  have:=h2.args;rwa [show((op.toNat:Nat):Int)=op by omega] at this
 ·rw[ho] at h1;cases h1
def nK (w:World)(g:Nat)(a wa gi:Int)(al nu:Bool)(d:Value):World:=(((((w.setCell ⟨g,0,none⟩ (.int .i64 a)).setCell ⟨g,1,none⟩ (.int .u8 wa)).setCell ⟨g,2,none⟩ (.int .u8 gi)).setCell ⟨g,3,none⟩ (.bool al)).setCell ⟨g,4,none⟩ (.bool nu)).setCell ⟨g,5,none⟩ d
theorem xm {w:World} {g q:Nat} {t:TypeId} {cs:Array Value}(h:ah w q t cs)(hg:q≠g)(a wa gi:Int)(al nu:Bool)(d:Value):ah (nK w g a wa gi al nu d) q t cs:=
 (((((h.far (p:=⟨g,0,none⟩) hg _).far (p:=⟨g,1,none⟩) hg _).far (p:=⟨g,2,none⟩) hg _).far (p:=⟨g,3,none⟩) hg _).far (p:=⟨g,4,none⟩) hg _).far (p:=⟨g,5,none⟩) hg _
theorem pV {w:World} {g:Nat} {t:TypeId} {cs:Array Value}(h:ah w g t cs)(hs:cs.size=6)(a wa gi:Int)(al nu:Bool)(d:Value):ah (nK w g a wa gi al nu d) g t (ey a wa gi al nu d):=by
 have h1:=(((((h.cn 0 (.int .i64 a)).cn 1 (.int .u8 wa)).cn 2 (.int .u8 gi)).cn 3 (.bool al)).cn 4 (.bool nu)).cn 5 d;have e:(((((cs.setIfInBounds 0 (.int .i64 a)).setIfInBounds 1 (.int .u8 wa)).setIfInBounds 2 (.int .u8 gi)).setIfInBounds 3 (.bool al)).setIfInBounds 4 (.bool nu)).setIfInBounds 5 d=ey a wa gi al nu d:=by
  clear h1 h;obtain⟨l⟩:=cs
  match l,hs with
  | [c0,c1,c2,c3,c4,c5],_=>simp[ey]
 rw[e] at h1;exact h1
theorem zZ {B:Nat} {w0 w:World}(h:Below B w0 w) {g:Nat}(hg:B≤g)(a wa gi:Int)(al nu:Bool)(d:Value):Below B w0 (nK w g a wa gi al nu d):=
 (((((h.setCell (p:=⟨g,0,none⟩) hg _).setCell (p:=⟨g,1,none⟩) hg _).setCell (p:=⟨g,2,none⟩) hg _).setCell (p:=⟨g,3,none⟩) hg _).setCell (p:=⟨g,4,none⟩) hg _).setCell (p:=⟨g,5,none⟩) hg _
theorem dt {op:Int} {B:Nat} {w:World} {g:Nat} {cs:Array Value}(h:ah w g 76 cs)(hs:cs.size=6)(hg:B≤g) {a wa gi:Int} {al nu:Bool} {d:Value}(ho:pU w op (ey a wa gi al nu d)):
  FR op B w (nK w g a wa gi al nu d)∧pU (nK w g a wa gi al nu d) op (ey a wa gi al nu d):=by
 have hne:∀(q:Nat) (t:TypeId) (cs':Array Value),t≠76→ah w q t cs'→q≠g:=by intro q t cs' ht hq e;subst e;unfold ah at h hq;rw[h] at hq;injection hq with hq;injection hq with _ hq _;exact ht hq.symm
 have uh:pU (nK w g a wa gi al nu d) op (ey a wa gi al nu d):=ho.zY fun q t cs' ht hq=>xm hq (hne q t cs' ht hq) _ _ _ _ _ _
 refine⟨⟨zZ (Below.refl _ _) hg _ _ _ _ _ _,fun q t cs' hq=>?_,fun q es c hq=>?_⟩,uh⟩
 ·by_cases e:q=g
  ·subst e;have ht:t=76:=by unfold ah at h hq;rw[h] at hq;injection hq with hq;injection hq with _ hq _;exact hq.symm
   subst ht;exact .inr ⟨rfl,hg,_,uh,pV h hs _ _ _ _ _ _⟩
  ·exact .inl (xm hq e _ _ _ _ _ _)
 ·have e:q≠g:=fun e=>by subst e;unfold ah at h;rw[h] at hq;cases hq
  have k:=fun(u:World) (i:Nat) (v:Value)=>Below.heap_setCell u ⟨g,i,none⟩ v q e
  unfold nK;rw[k,k,k,k,k,k];exact hq
theorem ID (w:World)(g:Nat)(es:Array MapEntry)(c:Nat)(hg:w.heap[g]?=some (.map es c))(k:Int)(i:Nat)(v:Value)(hf:Instr.findNow (.int .u8) (.int .u8 k) es.toList 0=some (some (i,v))):
  (Instr.lookup 94 (.map (some g)) (.int .u8 k) true).run Tryz.prog w=.ok (.tuple #[v,.bool true]) w:=by
 unfold Instr.lookup;simp only[Sem.run_bind,run_underlying Tryz.underlying94,Result.andThen_ok,MapKept.run_getObj_map hg,uK,Instr.findKey,run_underlying Tryz.underlying5,hf,Sem.run_pure];rfl
theorem Er (w:World):(zeroValue 76).run Tryz.prog w=.ok (.agg kF) w:=by kernel_rfl
theorem Ml (w:World)(g:Nat)(es:Array MapEntry)(c:Nat)(hg:w.heap[g]?=some (.map es c))(k:Int)(hf:Instr.findNow (.int .u8) (.int .u8 k) es.toList 0=some none):
  (Instr.lookup 94 (.map (some g)) (.int .u8 k) true).run Tryz.prog w=.ok (.tuple #[.agg kF,.bool false]) w:=by
 unfold Instr.lookup;simp only[Sem.run_bind,run_underlying Tryz.underlying94,Result.andThen_ok,MapKept.run_getObj_map hg,uK,Instr.findKey,run_underlying Tryz.underlying5,hf,Sem.run_pure,Er];rfl
def Found (w:World)(op:Int)(v:Value):Prop:=∃(g:Nat) (es:Array MapEntry),v=.map (some g)∧w.heap[g]?=some (.map es 18)∧
 ((gL op=true∧∃i o,Instr.findNow (.int .u8) (.int .u8 op) es.toList 0=some (some (i,.agg o))∧iB w op.toNat (.agg o))∨(gL op=false∧Instr.findNow (.int .u8) (.int .u8 op) es.toList 0=some none))
theorem Found.fr {VK:Int} {B:Nat} {a b:World} {op:Int} {v:Value}(h:FR VK B a b)(ho:Found a op v):Found b op v:=by
 obtain⟨g,es,h1,h2,h3⟩:=ho;refine⟨g,es,h1,h.map _ _ _ h2,?_⟩;rcases h3 with ⟨h4,i,o,h5,h6⟩| h3
 ·exact .inl ⟨h4,i,o,h5,iB.fr h _ _ h6⟩
 ·exact .inr h3
theorem xn (op:Int)(w:World):Calls Tryz.prog 54 #[] w fun e w'=>∃v,e=.returned v∧Found w' op v∧Below w.heap.size w w':=by
 refine(uL w).mono ?_;rintro e w' ⟨g,es,he,ht,uf,hout,hb⟩;refine⟨_,he,⟨g,es,rfl,ht.1,?_⟩,hb⟩;cases ho:gL op
 ·refine .inr ⟨rfl,hout op ?_⟩;simp[gL] at ho;omega
 ·have h2:3≤op∧op≤20:=by simpa [gL] using ho
  obtain⟨i,v,h3,h4⟩:=uf op.toNat (by omega) (by omega);have e1:((op.toNat:Nat):Int)=op:=by omega
  rw[e1] at h3;obtain⟨a,wa,gi,al,nu,F,C,_,rfl⟩:=h4.shape;exact .inl ⟨rfl,i,_,h3,h4⟩
theorem uM {P:Program} {Q:Exit→Act→World→Prop} {a0:Act} {w0:World} {id:Nat} {ops:List Oper}(k:Nat)(R:World→World→Prop)(hrefl:∀w,R w w)(pP:∀a b c,R a b→R b c→R a c)(iy:∀w,R w w.drew)
  (V:Nat→World→Value→Prop) (U:Nat→World→(Operand→Value)→Prop) (hU:zX (ops.take k) R U) (hV:∀i w w' v,V i w v→R w w'→V i w' v) (hm:P.follows .mixedOrders=true)
  (aS:bR (ops.take k) a0.tmps.size (ops.take k) 0=true) (hz:cF ops (ops.drop k) (ops.take k).length=true)
  (hs:yy P (ops.take k) R V U a0 w0 (ops.take k) 0) (hf:∀w,R w0 w→dr V (fun a w=>(∀i o,(ops.take k)[i]?=some o→U i w a.eval)→wpList P ops.toArray Q (ops.drop k) a w) (ops.take k) 0 a0 w):(Code.region id ops.toArray true).wp P Q a0 w0:=
 yz (ops.drop k) (ops.take k) (List.take_append_drop k ops).symm R hrefl pP iy V U hU hV hm aS (by rw[List.take_append_drop];exact hz) hs hf
def Es (B gx:Nat)(op:Int):Nat→World→Value→Prop
 | 0=>fun w v=>Found w op v
 | 1=>fun _ v=>v=.pointer (some ⟨gx,0,none⟩)
 | 2=>fun _ v=>v=.int .u8 op
 | 3=>fun w v=>∃o,v=.tuple #[.agg o,.bool (gL op)]∧pU w op o
 | 4=>fun w v=>∃o,v=.tuple #[.agg o,.bool (gL op)]∧pU w op o
 | 5=>fun w v=>∃o,v=.agg o∧pU w op o
 | 6=>fun _ v=>v=.bool (gL op)
 | 7=>fun w v=>∃g,v=.pointer (some ⟨g,0,none⟩)∧B≤g∧∃cs,ah w g 76 cs∧cs.size=6
 | _=>fun _ _=>True
theorem Aa (B gx:Nat)(op:Int)(i:Nat)(w w':World)(v:Value)(h:Es B gx op i w v)(hr:FR op B w w'):Es B gx op i w' v:=by
 unfold Es at*;split at h
 ·exact h.fr hr
 ·exact h
 ·exact h
 ·obtain⟨o,h1,h2⟩:=h;exact⟨o,h1,h2.fr hr⟩
 ·obtain⟨o,h1,h2⟩:=h;exact⟨o,h1,h2.fr hr⟩
 ·obtain⟨o,h1,h2⟩:=h;exact⟨o,h1,h2.fr hr⟩
 ·exact h
 ·obtain⟨g,h1,h2,cs,h3,h4⟩:=h;refine⟨g,h1,h2,?_⟩;rcases hr.blk _ _ _ h3 with h5 |⟨_,_,o,h5,h6⟩
  ·exact⟨cs,h5,h4⟩
  ·obtain⟨a,wa,gi,al,nu,d,rfl,_⟩:=h5.shape;exact⟨_,h6,rfl⟩
 ·trivial
def IE (B:Nat)(op:Int)(i:Nat)(w:World)(ρ:Operand→Value):Prop:=
 i=8→∃g o,ρ (.tmp 4)=.pointer (some ⟨g,0,none⟩)∧B≤g∧pU w op o∧ah w g 76 o
theorem Ab (B:Nat)(op:Int) {w w':World} {ρ ρ':Operand→Value}(i:Nat)(h:IE B op i w ρ)(hr:FR op B w w')(he:i=8→ρ' (.tmp 4)=ρ (.tmp 4)):IE B op i w' ρ':=by
 intro hi;obtain⟨g,o,h1,h2,h3,h4⟩:=h hi;rcases hr.blk _ _ _ h4 with h5 |⟨_,_,o',h6,h7⟩
 ·exact⟨g,o,(he hi).trans h1,h2,h3.fr hr,h5⟩
 ·exact⟨g,o',(he hi).trans h1,h2,h6,h7⟩
def bJ (x:Ex):Int:=
 if x.op=1∧x.n=0∧good x.v=true∨x.op=2∧x.n=0 then 0
 else if gL x.op=true∧(x.n:Int)=lg x.op∧(x.op≠20∨(1≤x.width∧x.width≤1099511627776))then 0
 else if (x.n:Int)=fD x.op then 42 else 21
def IG (x:Ex)(w:World)(e:Ending)(w':World):Prop:=∃o,e=.returned (.tuple #[.agg o,.int .i64 (bJ x)])∧pU w' x.op o∧Below w.heap.size w w'
set_option maxHeartbeats 3000000
set_option maxRecDepth 100000
theorem Ac (x:Ex)(w:World):Calls Tryz.prog 42 #[.agg #[.int .u8 x.op,.int .u8 x.v.k,.int .i64 x.v.n,.string x.v.s,.string x.name,.int .i64 x.width,.slice x.A x.n x.c]] w (IG x w):=by
 go_enter Tryz.func42,Tryz.ntmps42;go_wp2_with fail;have hX:=(ah.new w 34 #[.int .u8 x.op,.int .u8 x.v.k,.int .i64 x.v.n,.string x.v.s,.string x.name,.int .i64 x.width,.slice x.A x.n x.c]).alloc (.cells #[.int .i64 0,.int .u8 0,.int .u8 0,.bool false,.bool false,.nilFunc] 76);have hR:=ah.new (w.alloc (.cells #[.int .u8 x.op,.int .u8 x.v.k,.int .i64 x.v.n,.string x.v.s,.string x.name,.int .i64 x.width,.slice x.A x.n x.c] 34)) 76 #[.int .i64 0,.int .u8 0,.int .u8 0,.bool false,.bool false,.nilFunc];rw[World.size_alloc] at hR;have hB:=ae.then (aa w (.cells #[.int .u8 x.op,.int .u8 x.v.k,.int .i64 x.v.n,.string x.v.s,.string x.name,.int .i64 x.width,.slice x.A x.n x.c] 34)) (aa _ (.cells #[.int .i64 0,.int .u8 0,.int .u8 0,.bool false,.bool false,.nilFunc] 76))
 have hgx:w.heap.size <((w.alloc (.cells #[.int .u8 x.op,.int .u8 x.v.k,.int .i64 x.v.n,.string x.v.s,.string x.name,.int .i64 x.width,.slice x.A x.n x.c] 34)).alloc (.cells #[.int .i64 0,.int .u8 0,.int .u8 0,.bool false,.bool false,.nilFunc] 76)).heap.size:=by simp;omega
 generalize (w.alloc (.cells #[.int .u8 x.op,.int .u8 x.v.k,.int .i64 x.v.n,.string x.v.s,.string x.name,.int .i64 x.width,.slice x.A x.n x.c] 34)).alloc (.cells #[.int .i64 0,.int .u8 0,.int .u8 0,.bool false,.bool false,.nilFunc] 76)=W at*;have eJ:w.heap.size≤w.heap.size+1:=by omega
 generalize w.heap.size+1=g2 at*;refine uM 9 (FR x.op W.heap.size) (FR.refl _ _) (fun _ _ _=>FR.trans) (fun u=>?_) (Es W.heap.size w.heap.size x.op) (IE W.heap.size x.op) ?_ (fun i u u' v h hr=>Aa _ _ _ _ _ _ _ h hr) (by kernel_rfl) (by kernel_rfl) (by kernel_rfl) ?_ ?_
 ·exact⟨(Below.refl _ _).drew,fun g t cs h=> .inl h,fun g es c h=>h⟩
 ·intro i o u u' ρ ρ' hi hu hr hk;refine Ab _ _ i hu hr fun e=>?_
  subst e;simp only[List.take_succ_cons,List.take_zero] at hi hk;refine hk 7 ?_ _ 4 rfl rfl;injection hi with hi;subst hi;decide
 ·simp only[List.take_succ_cons,List.take_zero];refine⟨?_,?_,?_,?_,?_,?_,?_,?_,?_,trivial⟩
  ·intro ρ w1 hc hL hr;have e1:=hc.func 54;refine lZ (f:=54) (args:= #[]) (w':=w1) (by simp[go_sem,e1]) ?_;refine(xn x.op w1).mono ?_;rintro e w2 ⟨v,he,hf,hb⟩;exact⟨v,he,FR.later hb hL.below.size,hf,fun h=>by cases h⟩
  ·intro ρ w1 hc hL hr;have h1:ρ (.tmp 1)=.pointer (some ⟨w.heap.size,0,none⟩):=hr.1;exact cJ (w':=w1) (by simp[go_sem,h1]) ⟨FR.refl _ _ _,rfl,fun h=>by cases h⟩
  ·intro ρ w1 hc hL hr;have h1:ρ (.tmp 9)=.pointer (some ⟨w.heap.size,0,none⟩):=hr.1;have c0:=(hX.below hL.below hgx).cell 0;simp only[List.getElem?_toArray,List.getElem?_cons_zero] at c0;exact cJ (w':=w1) (by simp[go_sem,h1,c0]) ⟨FR.refl _ _ _,rfl,fun h=>by cases h⟩
  ·intro ρ w1 hc hL hr;obtain⟨g,es,h1,hg,PO⟩:Found w1 x.op (ρ (.tmp 8)):=hr.1;have h2:ρ (.tmp 10)=.int .u8 x.op:=hr.2.1;rcases PO with ⟨ho,i,o,PQ,hoi⟩|⟨ho,PQ⟩
   ·have hl:=ID _ _ _ _ hg x.op i _ PQ;exact cJ (v:=.tuple #[.agg o,.bool true]) (w':=w1) (by simp[execOp,h1,h2,hl]) ⟨FR.refl _ _ _,⟨o,by rw[ho],.inl ⟨ho,hoi⟩⟩,fun h=>by cases h⟩
   ·have hl:=Ml _ _ _ _ hg x.op PQ;exact cJ (v:=.tuple #[.agg kF,.bool false]) (w':=w1) (by simp[execOp,h1,h2,hl]) ⟨FR.refl _ _ _,⟨kF,by rw[ho],.inr ⟨ho,rfl⟩⟩,fun h=>by cases h⟩
  ·intro ρ w1 hc hL hr;exact Iz (.inl rfl) rfl ⟨FR.refl _ _ _,hr.1,fun h=>by cases h⟩
  ·intro ρ w1 hc hL hr;obtain⟨o,h1,h2⟩:∃o,ρ (.tmp 7)=.tuple #[.agg o,.bool (gL x.op)]∧pU w1 x.op o:=hr.1;exact cJ (w':=w1) (by simp[go_sem,h1]) ⟨FR.refl _ _ _,⟨o,rfl,h2⟩,fun h=>by cases h⟩
  ·intro ρ w1 hc hL hr;obtain⟨o,h1,h2⟩:∃o,ρ (.tmp 7)=.tuple #[.agg o,.bool (gL x.op)]∧pU w1 x.op o:=hr.1;exact cJ (w':=w1) (by simp[go_sem,h1]) ⟨FR.refl _ _ _,rfl,fun h=>by cases h⟩
  ·intro ρ w1 hc hL hr;refine cJ (w':=w1.alloc (.cells #[.int .i64 0,.int .u8 0,.int .u8 0,.bool false,.bool false,.nilFunc] 76)) (by simp[go_sem]) ⟨FR.later (aa w1 _) hL.below.size,⟨w1.heap.size,rfl,hL.below.size,_,ah.new w1 _ _,rfl⟩,fun h=>by cases h⟩
  ·intro ρ w1 hc hL hr;obtain⟨g,h1,II,cs,hcs,hsz⟩:∃g,ρ (.tmp 4)=.pointer (some ⟨g,0,none⟩)∧W.heap.size≤g∧∃cs,ah w1 g 76 cs∧cs.size=6:=hr.1;obtain⟨o,h2,ho⟩:∃o,ρ (.tmp 12)=.agg o∧pU w1 x.op o:=hr.2.1;obtain⟨a,wa,gi,al,nu,d,rfl,_,hd⟩:=ho.shape;obtain⟨f1,f2⟩:=dt hcs hsz II ho;have IJ:=pV hcs hsz a wa gi al nu d;have c:∀i,(hi:i < 6)→w1.cell? ⟨g,i,none⟩=some (cs[i]'(by omega)):=fun i hi=>(hcs.cell i).trans (Array.getElem?_eq_getElem (by omega))
   have fz:=hcs.frozen;have c0:=c 0 (by omega);have c1:=c 1 (by omega);have c2:=c 2 (by omega);have c3:=c 3 (by omega);have c4:=c 4 (by omega);have c5:=c 5 (by omega);refine uI (w':=nK w1 g a wa gi al nu d) ?_ ⟨f1,trivial,fun _=>⟨g,_,h1,II,f2,IJ⟩⟩;unfold nK;rcases hd with rfl |⟨F,C,rfl⟩
   ·simp[go_sem,h1,h2,ey,c0,c1,c2,c3,c4,c5,fz]
   ·simp[go_sem,h1,h2,ey,c0,c1,c2,c3,c4,c5,fz]
 ·intro w1 hL;simp only[List.take_succ_cons,List.take_zero,List.drop_succ_cons,List.drop_zero];rintro _ ⟨gm,es,rfl,WD,PO⟩ _ rfl _ rfl _ ⟨o3,rfl,h3⟩ _ ⟨o4,rfl,h4⟩ _ ⟨o5,rfl,h5⟩ _ rfl _ ⟨g4,rfl,hg4,cs,hcs,hsz⟩ hu;obtain⟨g,o,hg,II,ho,ui⟩:=hu 8 _ rfl rfl;have cU:g4=g:=by simpa [Act.put,Act.eval] using hg
  subst cU;clear hu hg hcs hsz cs PO WD es h3 h4 h5 hg4;replace hX:=hX.below hL.below hgx;have ma:=hR.below hL.below (ah.lt hR);replace hB:=hB.trans (hL.below.mono hB.size);clear hR hL hgx;obtain⟨a,wa,gi,al,nu,d,rfl,_,hd⟩:=ho.shape;have mb:=fun h=>pU.args ho h
  have PR:d.oneCell'=true:=by rcases hd with rfl |⟨F,C,rfl⟩<;> rfl
  have hst:=fun(u:Addr) (m:Mode) (w:World)=>run_store Tryz.prog w u d m PR
  clear hd PR;have HO:=hid ho;clear ho;simp only[dr,Act.put,List.setIfInBounds_toArray,List.set_cons_succ,List.set_cons_zero];have x0:=hX.cell 0;have x1:=hX.cell 1;have x2:=hX.cell 2;have x3:=hX.cell 3;have x5:=hX.cell 5;have x6:=hX.cell 6;have o0:=ui.cell 0;have o1:=ui.cell 1;have o2:=ui.cell 2;have LR:=ui.cell 3;have LS:=ui.cell 4;have LU:=ui.cell 5;have r0:=ma.cell 0;have r1:=ma.cell 1;have r2:=ma.cell 2;have r3:=ma.cell 3;have r4:=ma.cell 4;have r5:=ma.cell 5;have rf:=ma.frozen;unfold ey at o0 o1 o2 LR LS LU;simp only[List.getElem?_toArray,List.getElem?_cons_zero,List.getElem?_cons_succ] at x0 x1 x2 x3 x5 x6 o0 o1 o2 LR LS LU r0 r1 r2 r3 r4 r5;cases b1:(x.op==1)
  ·cases b3:(x.op==2)
   ·have n1:¬x.op=1:=by simpa using b1
    have n2:¬x.op=2:=by simpa using b3
    cases q1:gL x.op
    ·clear mb;go_wp2_with fail;refine(eF x.op _).mono ?_;rintro e w9 ⟨rfl,rfl⟩;by_cases hn:(x.n:Int)=fD x.op
     ·have t1:((x.n:Int)==fD x.op)=true:=by simpa using hn
      have pW:=hid (show bJ x=42 by simp only[bJ];rw[if_neg (by simp_all),if_neg (by simp_all),if_pos hn]);go_wp2_with fail;refine bodyPost_ret (v:=.tuple #[.agg #[.int .i64 a,.int .u8 wa,.int .u8 gi,.bool al,.bool nu,d],.int .i64 42]) ?_ rfl ?_
      ·simp[results,Tryz.results42,go_sem,r0,r1,r2,r3,r4,r5]
      ·have k:=dt (B:=w.heap.size) ma rfl eJ HO.out;exact⟨_,by rw[pW.out];rfl,k.2,hB.trans k.1.below⟩
     ·have t1:((x.n:Int)==fD x.op)=false:=by simpa using hn
      have pW:=hid (show bJ x=21 by simp only[bJ];rw[if_neg (by simp_all),if_neg (by simp_all),if_neg hn]);go_wp2_with fail;refine bodyPost_ret (v:=.tuple #[.agg #[.int .i64 a,.int .u8 wa,.int .u8 gi,.bool al,.bool nu,d],.int .i64 21]) ?_ rfl ?_
      ·simp[results,Tryz.results42,go_sem,r0,r1,r2,r3,r4,r5]
      ·have k:=dt (B:=w.heap.size) ma rfl eJ HO.out;exact⟨_,by rw[pW.out];rfl,k.2,hB.trans k.1.below⟩
    ·have ha:=mb q1;clear mb;cases b4:((x.n:Int)==a)
     ·have n4:¬(x.n:Int)=lg x.op:=by rw[← ha];simpa using b4
      clear ha;go_wp2_with fail;refine(eF x.op _).mono ?_;rintro e w9 ⟨rfl,rfl⟩;by_cases hn:(x.n:Int)=fD x.op
      ·have t1:((x.n:Int)==fD x.op)=true:=by simpa using hn
       have pW:=hid (show bJ x=42 by simp only[bJ];rw[if_neg (by simp_all),if_neg (by simp_all),if_pos hn]);go_wp2_with fail;refine bodyPost_ret (v:=.tuple #[.agg #[.int .i64 a,.int .u8 wa,.int .u8 gi,.bool al,.bool nu,d],.int .i64 42]) ?_ rfl ?_
       ·simp[results,Tryz.results42,go_sem,r0,r1,r2,r3,r4,r5]
       ·have k:=dt (B:=w.heap.size) ma rfl eJ HO.out;exact⟨_,by rw[pW.out];rfl,k.2,hB.trans k.1.below⟩
      ·have t1:((x.n:Int)==fD x.op)=false:=by simpa using hn
       have pW:=hid (show bJ x=21 by simp only[bJ];rw[if_neg (by simp_all),if_neg (by simp_all),if_neg hn]);go_wp2_with fail;refine bodyPost_ret (v:=.tuple #[.agg #[.int .i64 a,.int .u8 wa,.int .u8 gi,.bool al,.bool nu,d],.int .i64 21]) ?_ rfl ?_
       ·simp[results,Tryz.results42,go_sem,r0,r1,r2,r3,r4,r5]
       ·have k:=dt (B:=w.heap.size) ma rfl eJ HO.out;exact⟨_,by rw[pW.out];rfl,k.2,hB.trans k.1.below⟩
     ·have n4:(x.n:Int)=lg x.op:=by rw[← ha];simpa using b4
      have N4:=hid n4;clear ha n4;cases b5:(x.op != 20)
      ·have n5:x.op=20:=by simpa using b5
       have N5:=hid n5;clear n5;have kw:=FC x.width;cases b6:(decide (1≤x.width)&& decide (x.width≤1099511627776))
       ·rw[b6] at kw;have KW:=hid kw;clear kw;go_wp2_with fail;refine(KW.out _).mono ?_;rintro e w8 ⟨rfl,rfl⟩;have n6:¬(1≤x.width∧x.width≤1099511627776):=by simpa using b6
        clear b6;go_wp2_with fail;refine(eF x.op _).mono ?_;rintro e w9 ⟨rfl,rfl⟩;by_cases hn:(x.n:Int)=fD x.op
        ·have t1:((x.n:Int)==fD x.op)=true:=by simpa using hn
         have pW:=hid (show bJ x=42 by have z0:=N4.out;have z1:=N5.out;simp only[bJ];rw[if_neg (by simp_all),if_neg (by simp_all),if_pos hn]);go_wp2_with fail;refine bodyPost_ret (v:=.tuple #[.agg #[.int .i64 a,.int .u8 wa,.int .u8 gi,.bool al,.bool nu,d],.int .i64 42]) ?_ rfl ?_
         ·simp[results,Tryz.results42,go_sem,r0,r1,r2,r3,r4,r5]
         ·have k:=dt (B:=w.heap.size) ma rfl eJ HO.out;exact⟨_,by rw[pW.out];rfl,k.2,hB.trans k.1.below⟩
        ·have t1:((x.n:Int)==fD x.op)=false:=by simpa using hn
         have pW:=hid (show bJ x=21 by have z0:=N4.out;have z1:=N5.out;simp only[bJ];rw[if_neg (by simp_all),if_neg (by simp_all),if_neg hn]);go_wp2_with fail;refine bodyPost_ret (v:=.tuple #[.agg #[.int .i64 a,.int .u8 wa,.int .u8 gi,.bool al,.bool nu,d],.int .i64 21]) ?_ rfl ?_
         ·simp[results,Tryz.results42,go_sem,r0,r1,r2,r3,r4,r5]
         ·have k:=dt (B:=w.heap.size) ma rfl eJ HO.out;exact⟨_,by rw[pW.out];rfl,k.2,hB.trans k.1.below⟩
       ·rw[b6] at kw;have KW:=hid kw;clear kw;have n6:1≤x.width∧x.width≤1099511627776:=by simpa using b6
        clear b6;go_wp2_with fail;refine(KW.out _).mono ?_;rintro e w8 ⟨rfl,rfl⟩;have pW:=hid (show bJ x=0 by have z0:=N4.out;have z1:=N5.out;simp only[bJ];rw[if_neg (by simp_all),if_pos (by simp_all)]);go_wp2_with fail;refine bodyPost_ret (v:=.tuple #[.agg #[.int .i64 a,.int .u8 wa,.int .u8 gi,.bool al,.bool nu,d],.int .i64 0]) ?_ rfl ?_
        ·simp[results,Tryz.results42,go_sem,r0,r1,r2,r3,r4,r5]
        ·have k:=dt (B:=w.heap.size) ma rfl eJ HO.out;exact⟨_,by rw[pW.out];rfl,k.2,hB.trans k.1.below⟩
      ·have n5:¬x.op=20:=by simpa using b5
       have pW:=hid (show bJ x=0 by have z0:=N4.out;simp only[bJ];rw[if_neg (by simp_all),if_pos (by simp_all)]);go_wp2_with fail;refine bodyPost_ret (v:=.tuple #[.agg #[.int .i64 a,.int .u8 wa,.int .u8 gi,.bool al,.bool nu,d],.int .i64 0]) ?_ rfl ?_
       ·simp[results,Tryz.results42,go_sem,r0,r1,r2,r3,r4,r5]
       ·have k:=dt (B:=w.heap.size) ma rfl eJ HO.out;exact⟨_,by rw[pW.out];rfl,k.2,hB.trans k.1.below⟩
   ·have p2:x.op=2:=by simpa using b3
    have q1:gL x.op=false:=by rw[p2];rfl
    rw[q1];have P2:=hid p2;clear mb p2;cases b2:((x.n:Int)==0)
    ·have n2:¬x.n=0:=by simpa using b2
     go_wp2_with fail;refine(eF x.op _).mono ?_;rintro e w9 ⟨rfl,rfl⟩;by_cases hn:(x.n:Int)=fD x.op
     ·have t1:((x.n:Int)==fD x.op)=true:=by simpa using hn
      have pW:=hid (show bJ x=42 by have z0:=P2.out;simp only[bJ];rw[if_neg (by simp_all),if_neg (by simp_all),if_pos hn]);go_wp2_with fail;refine bodyPost_ret (v:=.tuple #[.agg #[.int .i64 a,.int .u8 wa,.int .u8 gi,.bool al,.bool nu,d],.int .i64 42]) ?_ rfl ?_
      ·simp[results,Tryz.results42,go_sem,r0,r1,r2,r3,r4,r5]
      ·have k:=dt (B:=w.heap.size) ma rfl eJ HO.out;exact⟨_,by rw[pW.out];rfl,k.2,hB.trans k.1.below⟩
     ·have t1:((x.n:Int)==fD x.op)=false:=by simpa using hn
      have pW:=hid (show bJ x=21 by have z0:=P2.out;simp only[bJ];rw[if_neg (by simp_all),if_neg (by simp_all),if_neg hn]);go_wp2_with fail;refine bodyPost_ret (v:=.tuple #[.agg #[.int .i64 a,.int .u8 wa,.int .u8 gi,.bool al,.bool nu,d],.int .i64 21]) ?_ rfl ?_
      ·simp[results,Tryz.results42,go_sem,r0,r1,r2,r3,r4,r5]
      ·have k:=dt (B:=w.heap.size) ma rfl eJ HO.out;exact⟨_,by rw[pW.out];rfl,k.2,hB.trans k.1.below⟩
    ·have n2:x.n=0:=by simpa using b2
     have N2:=hid n2;clear n2;have pW:=hid (show bJ x=0 by have z0:=P2.out;have z1:=N2.out;simp only[bJ];rw[if_pos (by simp_all)]);go_wp2_with fail;refine bodyPost_ret (v:=.tuple #[.agg #[.int .i64 a,.int .u8 wa,.int .u8 gi,.bool al,.bool nu,d],.int .i64 0]) ?_ rfl ?_
     ·simp[results,Tryz.results42,go_sem,r0,r1,r2,r3,r4,r5]
     ·have k:=dt (B:=w.heap.size) ma rfl eJ HO.out;exact⟨_,by rw[pW.out];rfl,k.2,hB.trans k.1.below⟩
  ·have p1:x.op=1:=by simpa using b1
   have q1:gL x.op=false:=by rw[p1];rfl
   have b3:(x.op==2)=false:=by rw[p1];rfl
   rw[q1];have P1:=hid p1;clear mb p1;cases b2:((x.n:Int)==0)
   ·have n2:¬x.n=0:=by simpa using b2
    go_wp2_with fail;refine(eF x.op _).mono ?_;rintro e w9 ⟨rfl,rfl⟩;by_cases hn:(x.n:Int)=fD x.op
    ·have t1:((x.n:Int)==fD x.op)=true:=by simpa using hn
     have pW:=hid (show bJ x=42 by have z0:=P1.out;simp only[bJ];rw[if_neg (by simp_all),if_neg (by simp_all),if_pos hn]);go_wp2_with fail;refine bodyPost_ret (v:=.tuple #[.agg #[.int .i64 a,.int .u8 wa,.int .u8 gi,.bool al,.bool nu,d],.int .i64 42]) ?_ rfl ?_
     ·simp[results,Tryz.results42,go_sem,r0,r1,r2,r3,r4,r5]
     ·have k:=dt (B:=w.heap.size) ma rfl eJ HO.out;exact⟨_,by rw[pW.out];rfl,k.2,hB.trans k.1.below⟩
    ·have t1:((x.n:Int)==fD x.op)=false:=by simpa using hn
     have pW:=hid (show bJ x=21 by have z0:=P1.out;simp only[bJ];rw[if_neg (by simp_all),if_neg (by simp_all),if_neg hn]);go_wp2_with fail;refine bodyPost_ret (v:=.tuple #[.agg #[.int .i64 a,.int .u8 wa,.int .u8 gi,.bool al,.bool nu,d],.int .i64 21]) ?_ rfl ?_
     ·simp[results,Tryz.results42,go_sem,r0,r1,r2,r3,r4,r5]
     ·have k:=dt (B:=w.heap.size) ma rfl eJ HO.out;exact⟨_,by rw[pW.out];rfl,k.2,hB.trans k.1.below⟩
   ·have n2:x.n=0:=by simpa using b2
    have N2:=hid n2;clear n2;have kg:=IA x.v;cases bg:good x.v
    ·rw[bg] at kg;have KG:=hid kg;clear kg;go_wp2_with fail;refine(KG.out _).mono ?_;rintro e w2 ⟨rfl,b9⟩;clear x0 x1 x2 x3 x5 x6 o0 o1 o2 LR LS LU r0 r1 r2 r3 r4 r5 rf;replace hX:=hX.later b9;replace ui:=ui.later b9;replace ma:=ma.later b9;replace hB:=ae.then hB b9
     replace HO:=hid (HO.out.later b9);clear b9;have x0:=hX.cell 0;have x1:=hX.cell 1;have x2:=hX.cell 2;have x3:=hX.cell 3;have x5:=hX.cell 5;have x6:=hX.cell 6;have o0:=ui.cell 0;have o1:=ui.cell 1;have o2:=ui.cell 2;have LR:=ui.cell 3;have LS:=ui.cell 4;have LU:=ui.cell 5;have r0:=ma.cell 0;have r1:=ma.cell 1;have r2:=ma.cell 2;have r3:=ma.cell 3;have r4:=ma.cell 4;have r5:=ma.cell 5;have rf:=ma.frozen;unfold ey at o0 o1 o2 LR LS LU;simp only[List.getElem?_toArray,List.getElem?_cons_zero,List.getElem?_cons_succ] at x0 x1 x2 x3 x5 x6 o0 o1 o2 LR LS LU r0 r1 r2 r3 r4 r5;go_wp2_with fail;refine(eF x.op _).mono ?_;rintro e w9 ⟨rfl,rfl⟩;by_cases hn:(x.n:Int)=fD x.op
     ·have t1:((x.n:Int)==fD x.op)=true:=by simpa using hn
      have pW:=hid (show bJ x=42 by have z0:=P1.out;have z1:=N2.out;simp only[bJ];rw[if_neg (by simp_all),if_neg (by simp_all),if_pos hn]);go_wp2_with fail;refine bodyPost_ret (v:=.tuple #[.agg #[.int .i64 a,.int .u8 wa,.int .u8 gi,.bool al,.bool nu,d],.int .i64 42]) ?_ rfl ?_
      ·simp[results,Tryz.results42,go_sem,r0,r1,r2,r3,r4,r5]
      ·have k:=dt (B:=w.heap.size) ma rfl eJ HO.out;exact⟨_,by rw[pW.out];rfl,k.2,hB.trans k.1.below⟩
     ·have t1:((x.n:Int)==fD x.op)=false:=by simpa using hn
      have pW:=hid (show bJ x=21 by have z0:=P1.out;have z1:=N2.out;simp only[bJ];rw[if_neg (by simp_all),if_neg (by simp_all),if_neg hn]);go_wp2_with fail;refine bodyPost_ret (v:=.tuple #[.agg #[.int .i64 a,.int .u8 wa,.int .u8 gi,.bool al,.bool nu,d],.int .i64 21]) ?_ rfl ?_
      ·simp[results,Tryz.results42,go_sem,r0,r1,r2,r3,r4,r5]
      ·have k:=dt (B:=w.heap.size) ma rfl eJ HO.out;exact⟨_,by rw[pW.out];rfl,k.2,hB.trans k.1.below⟩
    ·rw[bg] at kg;have KG:=hid kg;clear kg;go_wp2_with fail;refine(KG.out _).mono ?_;rintro e w2 ⟨rfl,b9⟩;clear x0 x1 x2 x3 x5 x6 o0 o1 o2 LR LS LU r0 r1 r2 r3 r4 r5 rf;replace hX:=hX.later b9;replace ui:=ui.later b9;replace ma:=ma.later b9;replace hB:=ae.then hB b9
     replace HO:=hid (HO.out.later b9);clear b9;have x0:=hX.cell 0;have x1:=hX.cell 1;have x2:=hX.cell 2;have x3:=hX.cell 3;have x5:=hX.cell 5;have x6:=hX.cell 6;have o0:=ui.cell 0;have o1:=ui.cell 1;have o2:=ui.cell 2;have LR:=ui.cell 3;have LS:=ui.cell 4;have LU:=ui.cell 5;have r0:=ma.cell 0;have r1:=ma.cell 1;have r2:=ma.cell 2;have r3:=ma.cell 3;have r4:=ma.cell 4;have r5:=ma.cell 5;have rf:=ma.frozen;unfold ey at o0 o1 o2 LR LS LU;simp only[List.getElem?_toArray,List.getElem?_cons_zero,List.getElem?_cons_succ] at x0 x1 x2 x3 x5 x6 o0 o1 o2 LR LS LU r0 r1 r2 r3 r4 r5;have pW:=hid (show bJ x=0 by have z0:=P1.out;have z1:=N2.out;simp only[bJ];rw[if_pos (by simp_all)]);go_wp2_with fail;refine bodyPost_ret (v:=.tuple #[.agg #[.int .i64 a,.int .u8 wa,.int .u8 gi,.bool al,.bool nu,d],.int .i64 0]) ?_ rfl ?_
     ·simp[results,Tryz.results42,go_sem,r0,r1,r2,r3,r4,r5]
     ·have k:=dt (B:=w.heap.size) ma rfl eJ HO.out;exact⟨_,by rw[pW.out];rfl,k.2,hB.trans k.1.below⟩
end Go.Proofs.YtfmbcoeallmnnaaGreatDoor
