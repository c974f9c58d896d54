/- Parts of the proof. -/
import Derived.Test.YtfmbcoeallmnnaaGreatDoorD6
namespace Go.Proofs.YtfmbcoeallmnnaaGreatDoor
open Go.Lib (hid)
open Go.RowKit
def Ia (P:Program)(l:List Oper)(R:World→World→Prop)(V:Nat→World→Value→Prop)(U:Nat→World→(Operand→Value)→Prop)(a0:Act)(w0:World)(i:Nat)(o:Oper):Prop:=
 ∀ρ w,fk ρ→R w0 w→cL l V a0.eval ρ w o (tmpsOf o)→
  match o.guard with
  | none=>nw P o ρ w fun v w'=>R w w'∧V i w' v∧U i w' ρ
  | some _=>False
def Ba (P:Program)(l:List Oper)(R:World→World→Prop)(V:Nat→World→Value→Prop)(U:Nat→World→(Operand→Value)→Prop)(a0:Act)(w0:World):List Oper→Nat→Prop
 | [],_=>True
 | o::rest,i=>Ia P l R V U a0 w0 i o∧Ba P l R V U a0 w0 rest (i+1)
theorem zD {P:Program} {L:List Oper} {R:World→World→Prop} {V:Nat→World→Value→Prop} {U:Nat→World→(Operand→Value)→Prop} {a0:Act} {w0:World}:∀ {l:List Oper} {k:Nat},Ba P L R V U a0 w0 l k→∀i o,l[i]?=some o→Ia P L R V U a0 w0 (k+i) o
 | [],_,_,i,o,h=>by simp at h
 | o'::rest,k,hs,0,o,h=>by simp at h;subst h;exact hs.1
 | o'::rest,k,hs,i+1,o,h=>by have:=zD hs.2 i o (by simpa using h);rwa [show k+(i+1)=k+1+i by omega]
def CD (l:List Oper)(R:World→World→Prop)(U:Nat→World→(Operand→Value)→Prop):Prop:=
 ∀i o w w' ρ ρ',l[i]?=some o→U i w ρ→R w w'→(∀j∈cj o,∀oj d,l[j]?=some oj→oj.dst=some d→ρ' (.tmp d)=ρ (.tmp d))→U i w' ρ'
structure Inv2 (l:List Oper) (V:Nat→World→Value→Prop) (U:Nat→World→(Operand→Value)→Prop) (R:World→World→Prop) (a0:Act) (w0:World) (m:Nat) (listed:Array Bool) (a:Act) (w:World):Prop where
 base:Inv l V R a0 w0 m listed a w
 post:∀i o,l[i]?=some o→listed.getD i false=true→U i w a.eval
section
variable {P:Program} {l zs:List Oper} {Q:Exit→Act→World→Prop} {R:World→World→Prop} {V:Nat→World→Value→Prop} {U:Nat→World→(Operand→Value)→Prop} {a0:Act} {w0:World}
theorem Inv2.step (aZ:bX l a0.tmps.size l 0=true)(hV:∀i w w' v,V i w v→R w w'→V i w' v)(hU:CD l R U)(hrefl:∀w,R w w)(hT:∀a b c,R a b→R b c→R a c) {m:Nat} {listed:Array Bool} {a:Act} {w w':World} {v:Value}(I:Inv2 l V U R a0 w0 m listed a w) {i:Nat} {o:Oper}(ho:l[i]?=some o)(AU:i < m)
  (AQ:listed.getD i false=false) (hall:∀j∈cj o,listed.getD j false=true) (hr:R w w') (hv:V i w' v) (hu:U i w' a.eval):Inv2 l V U R a0 w0 m (listed.setIfInBounds i true) (a.put o.dst v) w':=by
 refine⟨I.base.step aZ hV hT ho AU AQ hall hr hv,?_⟩;have qz:i < listed.size:=by rw[I.base.len];exact AU
 have dF:=aR aZ i o ho;rw[Nat.zero_add] at dF;have keep:∀j d oj,l[j]?=some oj→oj.dst=some d→j≠i→(a.put o.dst v).eval (.tmp d)=a.eval (.tmp d):=by
  intro j d oj hj hd uG;refine Act.eval_put fun d' Uk e=>?_
  injection e with e;subst e;have fX:=aR aZ j oj hj;simp only[ew,hd,Bool.and_eq_true,Nat.zero_add,beq_iff_eq] at fX;simp only[ew,Uk,Bool.and_eq_true,beq_iff_eq] at dF;rw[fX.1.1.2.2] at dF;have:=dF.1.1.2.2;injection this with this;exact uG this
 intro j oj hj hl;by_cases uG:j=i
 ·subst uG;rw[hj] at ho;injection ho with ho;subst ho
  refine hU j oj w' w' a.eval _ hj hu (hrefl _) fun k hk ok d qO hd=>keep k d ok qO hd ?_
  intro e;subst e;have:=hall k hk;rw[AQ] at this;cases this
 ·have hl':listed.getD j false=true:=by rw[cd _ _ _ qz,if_neg uG] at hl;exact hl
  refine hU j oj w w' a.eval _ hj (I.post j oj hj hl') hr fun k hk ok d qO hd=>keep k d ok qO hd ?_
  intro e;subst e;have:=I.base.closed j oj hj hl' k hk;rw[AQ] at this;cases this
theorem zE {N:Nat}(aZ:bX l N l 0=true)(hz:cH (l++zs) zs l.length=true)(hf:∀w,R w0 w→cN V (fun a w=>(∀i o,l[i]?=some o→U i w a.eval)→wpList P (l++zs).toArray Q zs a w) l 0 a0 w) {listed:Array Bool} {a:Act} {w:World}(I2:Inv2 l V U R a0 w0 (l++zs).length listed a w)
  (h0:aG l.length listed=0):wpAny P .any (l++zs).toArray Q zs.length listed a w:=by
 have I:=I2.base;have hall:=cq h0;have ha:a=fill (fun d=>a.eval (.tmp d)) l a0:=by
  have h1:a.tmps=(fill (fun d=>a.eval (.tmp d)) l a0).tmps:=by
   apply Array.ext_getElem?;intro t;by_cases ht:t < a0.tmps.size
   ·rw[iT _ _ _ _ ht];split
    ·simp[Act.eval,I.size,ht]
    ·rename_i hno;refine I.old t ?_;intro i o hi hd _;exact hno ⟨o,List.mem_of_getElem? hi,hd⟩
   ·rw[Array.getElem?_eq_none (by rw[I.size];omega),Array.getElem?_eq_none (by rw[gL];omega)]
  have h2:a.defers=(fill (fun d=>a.eval (.tmp d)) l a0).defers:=by rw[eC,I.defers]
  exact ny h1 h2
 have hK:=kX (V:=V) (fun d=>a.eval (.tmp d)) l 0 a0 (fun i o d hi hd=>by
  rw[Nat.zero_add]
  have qz:i < l.length:=by
   rcases Nat.lt_or_ge i l.length with h' | h'
   ·exact h'
   ·rw[List.getElem?_eq_none h'] at hi;cases hi
  exact I.new i o d hi (hall i qz) hd) (hf w I.r)
 rw[← ha] at hK;replace hK:=hK fun i o hi=>I2.post i o hi (hall i (by
  rcases Nat.lt_or_ge i l.length with h' | h'
  ·exact h'
  ·rw[List.getElem?_eq_none h'] at hi;cases hi))
 refine iV aZ hz 0 zs rfl listed a w I.len ?_ hK;intro i hi;constructor
 ·intro hl;rcases Nat.lt_or_ge i l.length with h' | h'
  ·omega
  ·rw[I.tail i h'] at hl;cases hl
 ·intro hl;exact hall i (by omega)
theorem Bb {id:Nat} {ops:List Oper}(zs:List Oper)(l:List Oper)(ow:ops=l++zs)(R:World→World→Prop)(hrefl:∀w,R w w)(qN:∀a b c,R a b→R b c→R a c)(iW:∀w,R w w.drew)
  (V:Nat→World→Value→Prop) (U:Nat→World→(Operand→Value)→Prop) (hU:CD l R U) (hV:∀i w w' v,V i w v→R w w'→V i w' v) (hm:P.follows .mixedOrders=true) (aZ:bX l a0.tmps.size l 0=true) (hz:cH (l++zs) zs l.length=true)
  (hs:Ba P l R V U a0 w0 l 0) (hf:∀w,R w0 w→cN V (fun a w=>(∀i o,l[i]?=some o→U i w a.eval)→wpList P ops.toArray Q zs a w) l 0 a0 w):(Code.region id ops.toArray true).wp P Q a0 w0:=by
 subst ow;have main:∀(fuel:Nat) (listed:Array Bool) (a:Act) (w:World),Inv2 l V U R a0 w0 (l++zs).length listed a w→fuel=aG l.length listed+zs.length→wpAny P .any (l++zs).toArray Q fuel listed a w:=by
  intro fuel;induction fuel with
  | zero=>
    intro listed a w I2 Mj;have I:=I2.base;have h0:aG l.length listed=0:=by omega
    have hz0:zs.length=0:=by omega
    have:=zE aZ hz hf I2 h0;rwa [hz0] at this
  | succ fuel ih=>
    intro listed a w I2 Mj;have I:=I2.base;by_cases h0:aG l.length listed=0
    ·have:=zE aZ hz hf I2 h0;rwa [show zs.length=fuel+1 by omega] at this
    ·obtain⟨i0,qj,Jw⟩:=fp h0;obtain⟨i,⟨hi,hu⟩,wj⟩:=least (p:=fun i=>i < l.length∧listed.getD i false=false) i0 ⟨qj,Jw⟩;have jT:∀j,j < i→listed.getD j false=true:=fun j hj=>by
      cases hc:listed.getD j false with
      | true=>rfl
      | false=>exact absurd ⟨by omega,hc⟩ (wj j hj)
     have vI:l[i]?=some l[i]:=List.getElem?_eq_getElem hi;have kY:=aR aZ i _ vI;simp only[ew,Bool.and_eq_true,Nat.zero_add] at kY;have ee:i∈Region.ready .any (l++zs).toArray listed:=by
      refine iU (fW vI) ?_ fun j hj=>jT j (of_decide_eq_true (List.all_eq_true.1 kY.1.1.1 j hj))
      rw[cm (by rw[I.len];simp;omega)];exact hu
     refine⟨(fun hnil=>by rw[hnil] at ee;cases ee),fun j hj=>?_⟩;obtain⟨oH,oj,ig,hall⟩:=mem_ready.1 hj;have uH:j <(l++zs).length:=by
      rcases Nat.lt_or_ge j (l++zs).length with h' | h'
      ·exact h'
      ·rw[Array.getElem?_eq_none (by simpa using h')] at ig;cases ig
     rw[cm (by rw[I.len];exact uH)] at oH;have cZ:∀k∈cj oj,listed.getD k false=true:=fun k hk=>by obtain⟨e,he,hb,rfl⟩:=dY.1 hk;exact hall e he hb
     have AV:j < l.length:=by
      rcases Nat.lt_or_ge j l.length with h' | h'
      ·exact h'
      ·exfalso;have Fo:zs[j - l.length]?=some oj:=by
        have:(l++zs)[j]?=some oj:=by simpa using ig
        rw[List.getElem?_append_right (by omega)] at this;exact this
       have wh:=dE hz (j - l.length) oj Fo;rw[show l.length+(j - l.length)=j by omega] at wh;have hc:=dJ (L:=l++zs) (fun k=>listed.getD k false=true) (by
        intro k ok hk hd e he
        rcases Nat.lt_or_ge k l.length with wk | wk
        ·rw[List.getElem?_append_left wk] at hk
         exact I.closed k ok hk hd e he
        ·rw[I.tail k wk] at hd;cases hd) j (cj oj) wh.2 cZ i (by omega)
       rw[hu] at hc;cases hc
     have pH:l[j]?=some oj:=by
      have:(l++zs)[j]?=some oj:=by simpa using ig
      rw[List.getElem?_append_left AV] at this;exact this
     have hst:=zD hs j oj pH;rw[Nat.zero_add] at hst;have Hz:=Inv.reads aZ I pH oH cZ (tmpsOf oj) (fun _ h=>h);have hstep:=hst a.eval w (fU a) I.r Hz;have rT:∀v w',R w w'→V j w' v→U j w' a.eval→wpAny P .any (l++zs).toArray Q fuel (listed.setIfInBounds j true) (a.put oj.dst v) w':=by intro v w' hr hv hu;refine ih _ _ _ (I2.step aZ hV hU hrefl qN pH uH oH cZ hr hv hu) ?_;have:=fo l.length listed j (by rw[I.len];exact uH) AV oH;omega
     unfold wpOp;rw[ig];show if Region.wanted oj (yielded (l++zs).toArray a.tmps)=true then _ else _
     cases hg:oj.guard with
     | none=>rw[if_pos (by simp[Region.wanted,hg])];simp only[hg] at hstep;exact .inl (eA hstep fun v w' h=>rT v w' h.1 h.2.1 h.2.2)
     | some g=>simp only[hg] at hstep
 refine wp_region_any hm ?_;have h0:R w0 w0.drew:=iW w0;have:=main (l++zs).toArray.size (Array.replicate (l++zs).toArray.size false) a0 w0.drew ⟨⟨h0,rfl,rfl,fun _ _=>rfl,(fun i o d _ h=>by rw[aD] at h;cases h),(fun i o _ h=>by rw[aD] at h;cases h),by simp,fun i _=>aD _ _⟩,fun i o _ h=>by rw[aD] at h;cases h⟩ (by
  have:aG l.length (Array.replicate (l++zs).toArray.size false)=l.length:=by
   unfold aG
   rw[List.filter_eq_self.2 (fun i _=>by rw[aD];rfl),List.length_range]
  rw[this];simp)
 exact this
end
open Go.ChangeShapes Go.WideShapes Go.ChangeAt
set_option linter.unusedVariables false
set_option linter.unusedSimpArgs false
def gp (op:Int):Bool:=decide (3≤op∧op≤20)
def cu (a wa gi:Int)(al nu:Bool)(d:Value):Array Value:= #[.int .i64 a,.int .u8 wa,.int .u8 gi,.bool al,.bool nu,d]
def jt:Array Value:= #[.int .i64 0,.int .u8 0,.int .u8 0,.bool false,.bool false,.nilFunc]
def qQ (w:World)(op:Int)(o:Array Value):Prop:=(gp op=true∧ij w op.toNat (.agg o))∨(gp op=false∧o=jt)
theorem ij.shape {w:World} {k:Nat} {v:Value}(h:ij w k v):∃a wa gi al nu F C,(a=1∨a=2)∧v=.agg (cu a wa gi al nu (.func F #[] C)):=by
 unfold ij at h;split at h;all_goals first
  | exact⟨_,_,_,_,_,_,_,.inl rfl,h⟩
  |(obtain⟨q,h1,_⟩:=h;exact⟨_,_,_,_,_,_,_,.inl rfl,h1⟩)
  |(obtain⟨q,h1,_⟩:=h;exact⟨_,_,_,_,_,_,_,.inr rfl,h1⟩)
  |(obtain⟨q,q2,h1,_⟩:=h;exact⟨_,_,_,_,_,_,_,.inr rfl,h1⟩)
  | exact h.elim
theorem qQ.shape {w:World} {op:Int} {o:Array Value}(h:qQ w op o):∃a wa gi al nu d,o=cu a wa gi al nu d∧(gp op=true→a≠0)∧(d=.nilFunc∨∃F C,d=.func F #[] C):=by
 rcases h with ⟨h1,h2⟩|⟨h1,rfl⟩
 ·obtain⟨a,wa,gi,al,nu,F,C,ha,e⟩:=h2.shape;injection e with e;exact⟨a,wa,gi,al,nu,_,e,fun _=>by omega,.inr ⟨F,C,rfl⟩⟩
 ·exact⟨0,0,0,false,false,.nilFunc,rfl,(fun h=>by rw[h1] at h;cases h),.inl rfl⟩
theorem ij.CE {w w':World}(hk:∀(q:Nat) (t:TypeId) (cs:Array Value),t≠76→ag w q t cs→ag w' q t cs):∀(k:Nat) (v:Value),ij w k v→ij w' k v:=by
 intro k v h;unfold ij at*;split at h;all_goals first
  | exact h
  |(obtain⟨q,q2,h1,h2,h3⟩:=h;exact⟨q,q2,h1,hk _ _ _ (by decide) h2,hk _ _ _ (by decide) h3⟩)
  |(obtain⟨q,h1,h2⟩:=h;exact⟨q,h1,hk _ _ _ (by decide) h2⟩)
theorem qQ.CE {w w':World} {op:Int} {o:Array Value}(hk:∀(q:Nat) (t:TypeId) (cs:Array Value),t≠76→ag w q t cs→ag w' q t cs)(h:qQ w op o):qQ w' op o:=by
 rcases h with ⟨h1,h2⟩| h1
 ·exact .inl ⟨h1,h2.CE hk⟩
 ·exact .inr h1
structure FR (op:Int) (B:Nat) (a b:World):Prop where
 below:Below B a b
 blk:∀(g:Nat) (t:TypeId) (cs:Array Value),ag a g t cs→ag b g t cs∨(t=76∧B≤g∧∃o:Array Value,qQ b op o∧ag b g t o)
 map:∀(g:Nat) (es:Array MapEntry) (c:Nat),a.heap[g]?=some (Obj.map es c)→b.heap[g]?=some (Obj.map es c)
theorem FR.refl (op:Int)(B:Nat)(w:World):FR op B w w:=⟨Below.refl _ _,fun _ _ _ h=> .inl h,fun _ _ _ h=>h⟩
theorem FR.other {op:Int} {B:Nat} {a b:World}(h:FR op B a b) {g:Nat} {t:TypeId} {cs:Array Value}(hb:ag a g t cs)(ht:t≠76):ag b g t cs:=by
 rcases h.blk g t cs hb with h1 |⟨h1,_⟩
 ·exact h1
 ·exact absurd h1 ht
theorem ij.fr {op:Int} {B:Nat} {a b:World}(h:FR op B a b)(k:Nat)(v:Value)(hk:ij a k v):ij b k v:=hk.CE (fun q t cs ht hq=>h.other hq ht) _ _
theorem qQ.fr {op:Int} {B:Nat} {a b:World} {E9:Int} {o:Array Value}(h:FR op B a b)(ho:qQ a E9 o):qQ b E9 o:=ho.CE fun q t cs ht hq=>h.other hq ht
theorem FR.trans {op:Int} {B:Nat} {a b c:World}(h:FR op B a b)(k:FR op B b c):FR op B a c:=by
 refine⟨h.below.trans k.below,fun g t cs hb=>?_,fun g es c hb=>k.map _ _ _ (h.map _ _ _ hb)⟩;rcases h.blk g t cs hb with h1 |⟨h1,h2,o,h3,h4⟩
 ·exact k.blk g t cs h1
 ·rcases k.blk g t o h4 with h6 | h6
  ·exact .inr ⟨h1,h2,o,h3.fr k,h6⟩
  ·exact .inr h6
theorem FR.later {op:Int} {B:Nat} {a b:World}(h:Below a.heap.size a b)(hB:B≤a.heap.size):FR op B a b:=
 ⟨h.mono hB,fun g t cs hb=> .inl (hb.later h),fun g es c hb=>by
   rw[h.block g ?_]
   ·exact hb
   ·rcases Nat.lt_or_ge g a.heap.size with h' | h'
    ·exact h'
    ·rw[Array.getElem?_eq_none h'] at hb;cases hb⟩
theorem qQ.later {a b:World} {op:Int} {o:Array Value}(ho:qQ a op o)(h:Below a.heap.size a b):qQ b op o:=ho.fr (op:=0) (FR.later h (Nat.le_refl _))
def lh (op:Int):Int:=if op=3∨op=4∨18≤op then 1 else 2
theorem ij.args {w:World} {k:Nat} {a wa gi:Int} {al nu:Bool} {d:Value}(h:ij w k (.agg (cu a wa gi al nu d))):a=lh k:=by
 unfold ij at h;split at h;all_goals first
  | exact h.elim
  |(simp[eP,cu] at h;simp[lh];omega)
  |(obtain⟨q,q2,h1,_⟩:=h;simp[eP,cu] at h1;simp[lh];omega)
  |(obtain⟨q,h1,_⟩:=h;simp[eP,cu] at h1;simp[lh];omega)
theorem qQ.args {w:World} {op a wa gi:Int} {al nu:Bool} {d:Value}(h:qQ w op (cu a wa gi al nu d))(ho:gp op=true):a=lh op:=by
 rcases h with ⟨_,h2⟩|⟨h1,_⟩
 ·have h3:3≤op∧op≤20:=by simpa [gp] using ho
  have:=h2.args;rwa [show((op.toNat:Nat):Int)=op by omega] at this
 ·rw[ho] at h1;cases h1
def oK (w:World)(g:Nat)(a wa gi:Int)(al nu:Bool)(d:Value):World:=(((((w.setCell ⟨g,0,none⟩ (.int .i64 a)).setCell ⟨g,1,none⟩ (.int .u8 wa)).setCell ⟨g,2,none⟩ (.int .u8 gi)).setCell ⟨g,3,none⟩ (.bool al)).setCell ⟨g,4,none⟩ (.bool nu)).setCell ⟨g,5,none⟩ d
theorem zF {w:World} {g q:Nat} {t:TypeId} {cs:Array Value}(h:ag w q t cs)(hg:q≠g)(a wa gi:Int)(al nu:Bool)(d:Value):ag (oK w g a wa gi al nu d) q t cs:=
 (((((h.far (p:=⟨g,0,none⟩) hg _).far (p:=⟨g,1,none⟩) hg _).far (p:=⟨g,2,none⟩) hg _).far (p:=⟨g,3,none⟩) hg _).far (p:=⟨g,4,none⟩) hg _).far (p:=⟨g,5,none⟩) hg _
theorem qR {w:World} {g:Nat} {t:TypeId} {cs:Array Value}(h:ag w g t cs)(hs:cs.size=6)(a wa gi:Int)(al nu:Bool)(d:Value):ag (oK w g a wa gi al nu d) g t (cu a wa gi al nu d):=by
 have h1:=(((((h.cA 0 (.int .i64 a)).cA 1 (.int .u8 wa)).cA 2 (.int .u8 gi)).cA 3 (.bool al)).cA 4 (.bool nu)).cA 5 d;have e:(((((cs.setIfInBounds 0 (.int .i64 a)).setIfInBounds 1 (.int .u8 wa)).setIfInBounds 2 (.int .u8 gi)).setIfInBounds 3 (.bool al)).setIfInBounds 4 (.bool nu)).setIfInBounds 5 d=cu a wa gi al nu d:=by
  clear h1 h;obtain⟨l⟩:=cs
  match l,hs with
  | [c0,c1,c2,c3,c4,c5],_=>simp[cu]
 rw[e] at h1;exact h1
theorem CF {B:Nat} {w0 w:World}(h:Below B w0 w) {g:Nat}(hg:B≤g)(a wa gi:Int)(al nu:Bool)(d:Value):Below B w0 (oK w g a wa gi al nu d):=
 (((((h.setCell (p:=⟨g,0,none⟩) hg _).setCell (p:=⟨g,1,none⟩) hg _).setCell (p:=⟨g,2,none⟩) hg _).setCell (p:=⟨g,3,none⟩) hg _).setCell (p:=⟨g,4,none⟩) hg _).setCell (p:=⟨g,5,none⟩) hg _
theorem dA {op:Int} {B:Nat} {w:World} {g:Nat} {cs:Array Value}(h:ag w g 76 cs)(hs:cs.size=6)(hg:B≤g) {a wa gi:Int} {al nu:Bool} {d:Value}(ho:qQ w op (cu a wa gi al nu d)):
  FR op B w (oK w g a wa gi al nu d)∧qQ (oK w g a wa gi al nu d) op (cu a wa gi al nu d):=by
 have hne:∀(q:Nat) (t:TypeId) (cs':Array Value),t≠76→ag w q t cs'→q≠g:=by intro q t cs' ht hq e;subst e;unfold ag at h hq;rw[h] at hq;injection hq with hq;injection hq with _ hq _;exact ht hq.symm
 have oL:qQ (oK w g a wa gi al nu d) op (cu a wa gi al nu d):=ho.CE fun q t cs' ht hq=>zF hq (hne q t cs' ht hq) _ _ _ _ _ _
 refine⟨⟨CF (Below.refl _ _) hg _ _ _ _ _ _,fun q t cs' hq=>?_,fun q es c hq=>?_⟩,oL⟩
 ·by_cases e:q=g
  ·subst e;have ht:t=76:=by unfold ag at h hq;rw[h] at hq;injection hq with hq;injection hq with _ hq _;exact hq.symm
   subst ht;exact .inr ⟨rfl,hg,_,oL,qR h hs _ _ _ _ _ _⟩
  ·exact .inl (zF hq e _ _ _ _ _ _)
 ·have e:q≠g:=fun e=>by subst e;unfold ag at h;rw[h] at hq;cases hq
  have k:=fun(u:World) (i:Nat) (v:Value)=>Below.heap_setCell u ⟨g,i,none⟩ v q e
  unfold oK;rw[k,k,k,k,k,k];exact hq
theorem Mr (w:World)(g:Nat)(es:Array MapEntry)(c:Nat)(hg:w.heap[g]?=some (.map es c))(k:Int)(i:Nat)(v:Value)(hf:Instr.findNow (.int .u8) (.int .u8 k) es.toList 0=some (some (i,v))):
  (Instr.lookup 94 (.map (some g)) (.int .u8 k) true).run Tryz.prog w=.ok (.tuple #[v,.bool true]) w:=by
 unfold Instr.lookup;simp only[Sem.run_bind,run_underlying Tryz.underlying94,Result.andThen_ok,MapKept.run_getObj_map hg,wB,Instr.findKey,run_underlying Tryz.underlying5,hf,Sem.run_pure];rfl
theorem Ib (w:World):(zeroValue 76).run Tryz.prog w=.ok (.agg jt) w:=by kernel_rfl
theorem QA (w:World)(g:Nat)(es:Array MapEntry)(c:Nat)(hg:w.heap[g]?=some (.map es c))(k:Int)(hf:Instr.findNow (.int .u8) (.int .u8 k) es.toList 0=some none):
  (Instr.lookup 94 (.map (some g)) (.int .u8 k) true).run Tryz.prog w=.ok (.tuple #[.agg jt,.bool false]) w:=by
 unfold Instr.lookup;simp only[Sem.run_bind,run_underlying Tryz.underlying94,Result.andThen_ok,MapKept.run_getObj_map hg,wB,Instr.findKey,run_underlying Tryz.underlying5,hf,Sem.run_pure,Ib];rfl
def Found (w:World)(op:Int)(v:Value):Prop:=∃(g:Nat) (es:Array MapEntry),v=.map (some g)∧w.heap[g]?=some (.map es 18)∧
 ((gp op=true∧∃i o,Instr.findNow (.int .u8) (.int .u8 op) es.toList 0=some (some (i,.agg o))∧ij w op.toNat (.agg o))∨(gp op=false∧Instr.findNow (.int .u8) (.int .u8 op) es.toList 0=some none))
theorem Found.fr {E9:Int} {B:Nat} {a b:World} {op:Int} {v:Value}(h:FR E9 B a b)(ho:Found a op v):Found b op v:=by
 obtain⟨g,es,h1,h2,h3⟩:=ho;refine⟨g,es,h1,h.map _ _ _ h2,?_⟩;rcases h3 with ⟨h4,i,o,h5,h6⟩| h3
 ·exact .inl ⟨h4,i,o,h5,ij.fr h _ _ h6⟩
 ·exact .inr h3
theorem zG (op:Int)(w:World):Calls Tryz.prog 54 #[] w fun e w'=>∃v,e=.returned v∧Found w' op v∧Below w.heap.size w w':=by
 refine(wC w).mono ?_;rintro e w' ⟨g,es,he,ht,og,hout,hb⟩;refine⟨_,he,⟨g,es,rfl,ht.1,?_⟩,hb⟩;cases ho:gp op
 ·refine .inr ⟨rfl,hout op ?_⟩;simp[gp] at ho;omega
 ·have h2:3≤op∧op≤20:=by simpa [gp] using ho
  obtain⟨i,v,h3,h4⟩:=og op.toNat (by omega) (by omega);have e1:((op.toNat:Nat):Int)=op:=by omega
  rw[e1] at h3;obtain⟨a,wa,gi,al,nu,F,C,_,rfl⟩:=h4.shape;exact .inl ⟨rfl,i,_,h3,h4⟩
theorem wD {P:Program} {Q:Exit→Act→World→Prop} {a0:Act} {w0:World} {id:Nat} {ops:List Oper}(k:Nat)(R:World→World→Prop)(hrefl:∀w,R w w)(qN:∀a b c,R a b→R b c→R a c)(iW:∀w,R w w.drew)
  (V:Nat→World→Value→Prop) (U:Nat→World→(Operand→Value)→Prop) (hU:CD (ops.take k) R U) (hV:∀i w w' v,V i w v→R w w'→V i w' v) (hm:P.follows .mixedOrders=true)
  (aZ:bX (ops.take k) a0.tmps.size (ops.take k) 0=true) (hz:cH ops (ops.drop k) (ops.take k).length=true)
  (hs:Ba P (ops.take k) R V U a0 w0 (ops.take k) 0) (hf:∀w,R w0 w→cN V (fun a w=>(∀i o,(ops.take k)[i]?=some o→U i w a.eval)→wpList P ops.toArray Q (ops.drop k) a w) (ops.take k) 0 a0 w):(Code.region id ops.toArray true).wp P Q a0 w0:=
 Bb (ops.drop k) (ops.take k) (List.take_append_drop k ops).symm R hrefl qN iW V U hU hV hm aZ (by rw[List.take_append_drop];exact hz) hs hf
def Ic (B gx:Nat)(op:Int):Nat→World→Value→Prop
 | 0=>fun w v=>Found w op v
 | 1=>fun _ v=>v=.pointer (some ⟨gx,0,none⟩)
 | 2=>fun _ v=>v=.int .u8 op
 | 3=>fun w v=>∃o,v=.tuple #[.agg o,.bool (gp op)]∧qQ w op o
 | 4=>fun w v=>∃o,v=.tuple #[.agg o,.bool (gp op)]∧qQ w op o
 | 5=>fun w v=>∃o,v=.agg o∧qQ w op o
 | 6=>fun _ v=>v=.bool (gp op)
 | 7=>fun w v=>∃g,v=.pointer (some ⟨g,0,none⟩)∧B≤g∧∃cs,ag w g 76 cs∧cs.size=6
 | _=>fun _ _=>True
theorem CG (B gx:Nat)(op:Int)(i:Nat)(w w':World)(v:Value)(h:Ic B gx op i w v)(hr:FR op B w w'):Ic B gx op i w' v:=by
 unfold Ic at*;split at h
 ·exact h.fr hr
 ·exact h
 ·exact h
 ·obtain⟨o,h1,h2⟩:=h;exact⟨o,h1,h2.fr hr⟩
 ·obtain⟨o,h1,h2⟩:=h;exact⟨o,h1,h2.fr hr⟩
 ·obtain⟨o,h1,h2⟩:=h;exact⟨o,h1,h2.fr hr⟩
 ·exact h
 ·obtain⟨g,h1,h2,cs,h3,h4⟩:=h;refine⟨g,h1,h2,?_⟩;rcases hr.blk _ _ _ h3 with h5 |⟨_,_,o,h5,h6⟩
  ·exact⟨cs,h5,h4⟩
  ·obtain⟨a,wa,gi,al,nu,d,rfl,_⟩:=h5.shape;exact⟨_,h6,rfl⟩
 ·trivial
def Ms (B:Nat)(op:Int)(i:Nat)(w:World)(ρ:Operand→Value):Prop:=
 i=8→∃g o,ρ (.tmp 4)=.pointer (some ⟨g,0,none⟩)∧B≤g∧qQ w op o∧ag w g 76 o
theorem CH (B:Nat)(op:Int) {w w':World} {ρ ρ':Operand→Value}(i:Nat)(h:Ms B op i w ρ)(hr:FR op B w w')(he:i=8→ρ' (.tmp 4)=ρ (.tmp 4)):Ms B op i w' ρ':=by
 intro hi;obtain⟨g,o,h1,h2,h3,h4⟩:=h hi;rcases hr.blk _ _ _ h4 with h5 |⟨_,_,o',h6,h7⟩
 ·exact⟨g,o,(he hi).trans h1,h2,h3.fr hr,h5⟩
 ·exact⟨g,o',(he hi).trans h1,h2,h6,h7⟩
def bc (x:Ex):Int:=
 if x.op=1∧x.n=0∧good x.v=true∨x.op=2∧x.n=0 then 0
 else if gp x.op=true∧(x.n:Int)=lh x.op∧(x.op≠20∨(1≤x.width∧x.width≤1099511627776))then 0
 else if (x.n:Int)=gj x.op then 42 else 21
def Mt (x:Ex)(w:World)(e:Ending)(w':World):Prop:=∃o,e=.returned (.tuple #[.agg o,.int .i64 (bc x)])∧qQ w' x.op o∧Below w.heap.size w w'
set_option maxHeartbeats 3000000
set_option maxRecDepth 100000
theorem rZ (x:Ex)(w:World):Calls Tryz.prog 42 #[.agg #[.int .u8 x.op,.int .u8 x.v.k,.int .i64 x.v.n,.string x.v.s,.string x.name,.int .i64 x.width,.slice x.A x.n x.c]] w (Mt x w):=by
 go_enter Tryz.func42,Tryz.ntmps42;go_wp2_with fail;have hX:=(ag.new w 34 #[.int .u8 x.op,.int .u8 x.v.k,.int .i64 x.v.n,.string x.v.s,.string x.name,.int .i64 x.width,.slice x.A x.n x.c]).alloc (.cells #[.int .i64 0,.int .u8 0,.int .u8 0,.bool false,.bool false,.nilFunc] 76);have hR:=ag.new (w.alloc (.cells #[.int .u8 x.op,.int .u8 x.v.k,.int .i64 x.v.n,.string x.v.s,.string x.name,.int .i64 x.width,.slice x.A x.n x.c] 34)) 76 #[.int .i64 0,.int .u8 0,.int .u8 0,.bool false,.bool false,.nilFunc];rw[World.size_alloc] at hR;have hB:=ae.then (aa w (.cells #[.int .u8 x.op,.int .u8 x.v.k,.int .i64 x.v.n,.string x.v.s,.string x.name,.int .i64 x.width,.slice x.A x.n x.c] 34)) (aa _ (.cells #[.int .i64 0,.int .u8 0,.int .u8 0,.bool false,.bool false,.nilFunc] 76))
 have hgx:w.heap.size <((w.alloc (.cells #[.int .u8 x.op,.int .u8 x.v.k,.int .i64 x.v.n,.string x.v.s,.string x.name,.int .i64 x.width,.slice x.A x.n x.c] 34)).alloc (.cells #[.int .i64 0,.int .u8 0,.int .u8 0,.bool false,.bool false,.nilFunc] 76)).heap.size:=by simp;omega
 generalize (w.alloc (.cells #[.int .u8 x.op,.int .u8 x.v.k,.int .i64 x.v.n,.string x.v.s,.string x.name,.int .i64 x.width,.slice x.A x.n x.c] 34)).alloc (.cells #[.int .i64 0,.int .u8 0,.int .u8 0,.bool false,.bool false,.nilFunc] 76)=W at*;have bo:w.heap.size≤w.heap.size+1:=by omega
 generalize w.heap.size+1=g2 at*;refine wD 9 (FR x.op W.heap.size) (FR.refl _ _) (fun _ _ _=>FR.trans) (fun u=>?_) (Ic W.heap.size w.heap.size x.op) (Ms W.heap.size x.op) ?_ (fun i u u' v h hr=>CG _ _ _ _ _ _ _ h hr) (by kernel_rfl) (by kernel_rfl) (by kernel_rfl) ?_ ?_
 ·exact⟨(Below.refl _ _).drew,fun g t cs h=> .inl h,fun g es c h=>h⟩
 ·intro i o u u' ρ ρ' hi hu hr hk;refine CH _ _ i hu hr fun e=>?_
  subst e;simp only[List.take_succ_cons,List.take_zero] at hi hk;refine hk 7 ?_ _ 4 rfl rfl;injection hi with hi;subst hi;decide
 ·simp only[List.take_succ_cons,List.take_zero];refine⟨?_,?_,?_,?_,?_,?_,?_,?_,?_,trivial⟩
  ·intro ρ w1 hc hL hr;have e1:=hc.func 54;refine fZ (f:=54) (args:= #[]) (w':=w1) (by simp[go_sem,e1]) ?_;refine(zG x.op w1).mono ?_;rintro e w2 ⟨v,he,hf,hb⟩;exact⟨v,he,FR.later hb hL.below.size,hf,fun h=>by cases h⟩
  ·intro ρ w1 hc hL hr;have h1:ρ (.tmp 1)=.pointer (some ⟨w.heap.size,0,none⟩):=hr.1;exact ai (w':=w1) (by simp[go_sem,h1]) ⟨FR.refl _ _ _,rfl,fun h=>by cases h⟩
  ·intro ρ w1 hc hL hr;have h1:ρ (.tmp 9)=.pointer (some ⟨w.heap.size,0,none⟩):=hr.1;have c0:=(hX.below hL.below hgx).cell 0;simp only[List.getElem?_toArray,List.getElem?_cons_zero] at c0;exact ai (w':=w1) (by simp[go_sem,h1,c0]) ⟨FR.refl _ _ _,rfl,fun h=>by cases h⟩
  ·intro ρ w1 hc hL hr;obtain⟨g,es,h1,hg,Uv⟩:Found w1 x.op (ρ (.tmp 8)):=hr.1;have h2:ρ (.tmp 10)=.int .u8 x.op:=hr.2.1;rcases Uv with ⟨ho,i,o,Uw,hoi⟩|⟨ho,Uw⟩
   ·have hl:=Mr _ _ _ _ hg x.op i _ Uw;exact ai (v:=.tuple #[.agg o,.bool true]) (w':=w1) (by simp[execOp,h1,h2,hl]) ⟨FR.refl _ _ _,⟨o,by rw[ho],.inl ⟨ho,hoi⟩⟩,fun h=>by cases h⟩
   ·have hl:=QA _ _ _ _ hg x.op Uw;exact ai (v:=.tuple #[.agg jt,.bool false]) (w':=w1) (by simp[execOp,h1,h2,hl]) ⟨FR.refl _ _ _,⟨jt,by rw[ho],.inr ⟨ho,rfl⟩⟩,fun h=>by cases h⟩
  ·intro ρ w1 hc hL hr;exact oJ (.inl rfl) rfl ⟨FR.refl _ _ _,hr.1,fun h=>by cases h⟩
  ·intro ρ w1 hc hL hr;obtain⟨o,h1,h2⟩:∃o,ρ (.tmp 7)=.tuple #[.agg o,.bool (gp x.op)]∧qQ w1 x.op o:=hr.1;exact ai (w':=w1) (by simp[go_sem,h1]) ⟨FR.refl _ _ _,⟨o,rfl,h2⟩,fun h=>by cases h⟩
  ·intro ρ w1 hc hL hr;obtain⟨o,h1,h2⟩:∃o,ρ (.tmp 7)=.tuple #[.agg o,.bool (gp x.op)]∧qQ w1 x.op o:=hr.1;exact ai (w':=w1) (by simp[go_sem,h1]) ⟨FR.refl _ _ _,rfl,fun h=>by cases h⟩
  ·intro ρ w1 hc hL hr;refine ai (w':=w1.alloc (.cells #[.int .i64 0,.int .u8 0,.int .u8 0,.bool false,.bool false,.nilFunc] 76)) (by simp[go_sem]) ⟨FR.later (aa w1 _) hL.below.size,⟨w1.heap.size,rfl,hL.below.size,_,ag.new w1 _ _,rfl⟩,fun h=>by cases h⟩
  ·intro ρ w1 hc hL hr;obtain⟨g,h1,Mu,cs,hcs,hsz⟩:∃g,ρ (.tmp 4)=.pointer (some ⟨g,0,none⟩)∧W.heap.size≤g∧∃cs,ag w1 g 76 cs∧cs.size=6:=hr.1;obtain⟨o,h2,ho⟩:∃o,ρ (.tmp 12)=.agg o∧qQ w1 x.op o:=hr.2.1;obtain⟨a,wa,gi,al,nu,d,rfl,_,hd⟩:=ho.shape;obtain⟨f1,f2⟩:=dA hcs hsz Mu ho;have Mv:=qR hcs hsz a wa gi al nu d;have c:∀i,(hi:i < 6)→w1.cell? ⟨g,i,none⟩=some (cs[i]'(by omega)):=fun i hi=>(hcs.cell i).trans (Array.getElem?_eq_getElem (by omega))
   have fz:=hcs.frozen;have c0:=c 0 (by omega);have c1:=c 1 (by omega);have c2:=c 2 (by omega);have c3:=c 3 (by omega);have c4:=c 4 (by omega);have c5:=c 5 (by omega);refine wy (w':=oK w1 g a wa gi al nu d) ?_ ⟨f1,trivial,fun _=>⟨g,_,h1,Mu,f2,Mv⟩⟩;unfold oK;rcases hd with rfl |⟨F,C,rfl⟩
   ·simp[go_sem,h1,h2,cu,c0,c1,c2,c3,c4,c5,fz]
   ·simp[go_sem,h1,h2,cu,c0,c1,c2,c3,c4,c5,fz]
 ·intro w1 hL;simp only[List.take_succ_cons,List.take_zero,List.drop_succ_cons,List.drop_zero];rintro _ ⟨gm,es,rfl,K9,Uv⟩ _ rfl _ rfl _ ⟨o3,rfl,h3⟩ _ ⟨o4,rfl,h4⟩ _ ⟨o5,rfl,h5⟩ _ rfl _ ⟨g4,rfl,hg4,cs,hcs,hsz⟩ hu;obtain⟨g,o,hg,Mu,ho,vJ⟩:=hu 8 _ rfl rfl;have dh:g4=g:=by simpa [Act.put,Act.eval] using hg
  subst dh;clear hu hg hcs hsz cs Uv K9 es h3 h4 h5 hg4;replace hX:=hX.below hL.below hgx;have dg:=hR.below hL.below (ag.lt hR);replace hB:=hB.trans (hL.below.mono hB.size);clear hR hL hgx;obtain⟨a,wa,gi,al,nu,d,rfl,_,hd⟩:=ho.shape;have wE:=fun h=>qQ.args ho h
  have Mw:d.oneCell'=true:=by rcases hd with rfl |⟨F,C,rfl⟩<;> rfl
  have hst:=fun(u:Addr) (m:Mode) (w:World)=>run_store Tryz.prog w u d m Mw
  clear hd Mw;have HO:=hid ho;clear ho;simp only[cN,Act.put,List.setIfInBounds_toArray,List.set_cons_succ,List.set_cons_zero];have x0:=hX.cell 0;have x1:=hX.cell 1;have x2:=hX.cell 2;have x3:=hX.cell 3;have x5:=hX.cell 5;have x6:=hX.cell 6;have o0:=vJ.cell 0;have o1:=vJ.cell 1;have o2:=vJ.cell 2;have PS:=vJ.cell 3;have PT:=vJ.cell 4;have PU:=vJ.cell 5;have r0:=dg.cell 0;have r1:=dg.cell 1;have r2:=dg.cell 2;have r3:=dg.cell 3;have r4:=dg.cell 4;have r5:=dg.cell 5;have rf:=dg.frozen;unfold cu at o0 o1 o2 PS PT PU;simp only[List.getElem?_toArray,List.getElem?_cons_zero,List.getElem?_cons_succ] at x0 x1 x2 x3 x5 x6 o0 o1 o2 PS PT PU r0 r1 r2 r3 r4 r5;cases b1:(x.op==1)
  ·cases b3:(x.op==2)
   ·have n1:¬x.op=1:=by simpa using b1
    have n2:¬x.op=2:=by simpa using b3
    cases q1:gp x.op
    ·clear wE;go_wp2_with fail;refine(eL x.op _).mono ?_;rintro e w9 ⟨rfl,rfl⟩;by_cases hn:(x.n:Int)=gj x.op
     ·have t1:((x.n:Int)==gj x.op)=true:=by simpa using hn
      have qT:=hid (show bc x=42 by simp only[bc];rw[if_neg (by simp_all),if_neg (by simp_all),if_pos hn]);go_wp2_with fail;refine bodyPost_ret (v:=.tuple #[.agg #[.int .i64 a,.int .u8 wa,.int .u8 gi,.bool al,.bool nu,d],.int .i64 42]) ?_ rfl ?_
      ·simp[results,Tryz.results42,go_sem,r0,r1,r2,r3,r4,r5]
      ·have k:=dA (B:=w.heap.size) dg rfl bo HO.out;exact⟨_,by rw[qT.out];rfl,k.2,hB.trans k.1.below⟩
     ·have t1:((x.n:Int)==gj x.op)=false:=by simpa using hn
      have qT:=hid (show bc x=21 by simp only[bc];rw[if_neg (by simp_all),if_neg (by simp_all),if_neg hn]);go_wp2_with fail;refine bodyPost_ret (v:=.tuple #[.agg #[.int .i64 a,.int .u8 wa,.int .u8 gi,.bool al,.bool nu,d],.int .i64 21]) ?_ rfl ?_
      ·simp[results,Tryz.results42,go_sem,r0,r1,r2,r3,r4,r5]
      ·have k:=dA (B:=w.heap.size) dg rfl bo HO.out;exact⟨_,by rw[qT.out];rfl,k.2,hB.trans k.1.below⟩
    ·have ha:=wE q1;clear wE;cases b4:((x.n:Int)==a)
     ·have n4:¬(x.n:Int)=lh x.op:=by rw[← ha];simpa using b4
      clear ha;go_wp2_with fail;refine(eL x.op _).mono ?_;rintro e w9 ⟨rfl,rfl⟩;by_cases hn:(x.n:Int)=gj x.op
      ·have t1:((x.n:Int)==gj x.op)=true:=by simpa using hn
       have qT:=hid (show bc x=42 by simp only[bc];rw[if_neg (by simp_all),if_neg (by simp_all),if_pos hn]);go_wp2_with fail;refine bodyPost_ret (v:=.tuple #[.agg #[.int .i64 a,.int .u8 wa,.int .u8 gi,.bool al,.bool nu,d],.int .i64 42]) ?_ rfl ?_
       ·simp[results,Tryz.results42,go_sem,r0,r1,r2,r3,r4,r5]
       ·have k:=dA (B:=w.heap.size) dg rfl bo HO.out;exact⟨_,by rw[qT.out];rfl,k.2,hB.trans k.1.below⟩
      ·have t1:((x.n:Int)==gj x.op)=false:=by simpa using hn
       have qT:=hid (show bc x=21 by simp only[bc];rw[if_neg (by simp_all),if_neg (by simp_all),if_neg hn]);go_wp2_with fail;refine bodyPost_ret (v:=.tuple #[.agg #[.int .i64 a,.int .u8 wa,.int .u8 gi,.bool al,.bool nu,d],.int .i64 21]) ?_ rfl ?_
       ·simp[results,Tryz.results42,go_sem,r0,r1,r2,r3,r4,r5]
       ·have k:=dA (B:=w.heap.size) dg rfl bo HO.out;exact⟨_,by rw[qT.out];rfl,k.2,hB.trans k.1.below⟩
     ·have n4:(x.n:Int)=lh x.op:=by rw[← ha];simpa using b4
      have N4:=hid n4;clear ha n4;cases b5:(x.op != 20)
      ·have n5:x.op=20:=by simpa using b5
       have N5:=hid n5;clear n5;have kw:=Jy x.width;cases b6:(decide (1≤x.width)&& decide (x.width≤1099511627776))
       ·rw[b6] at kw;have KW:=hid kw;clear kw;go_wp2_with fail;refine(KW.out _).mono ?_;rintro e w8 ⟨rfl,rfl⟩;have n6:¬(1≤x.width∧x.width≤1099511627776):=by simpa using b6
        clear b6;go_wp2_with fail;refine(eL x.op _).mono ?_;rintro e w9 ⟨rfl,rfl⟩;by_cases hn:(x.n:Int)=gj x.op
        ·have t1:((x.n:Int)==gj x.op)=true:=by simpa using hn
         have qT:=hid (show bc x=42 by have z0:=N4.out;have z1:=N5.out;simp only[bc];rw[if_neg (by simp_all),if_neg (by simp_all),if_pos hn]);go_wp2_with fail;refine bodyPost_ret (v:=.tuple #[.agg #[.int .i64 a,.int .u8 wa,.int .u8 gi,.bool al,.bool nu,d],.int .i64 42]) ?_ rfl ?_
         ·simp[results,Tryz.results42,go_sem,r0,r1,r2,r3,r4,r5]
         ·have k:=dA (B:=w.heap.size) dg rfl bo HO.out;exact⟨_,by rw[qT.out];rfl,k.2,hB.trans k.1.below⟩
        ·have t1:((x.n:Int)==gj x.op)=false:=by simpa using hn
         have qT:=hid (show bc x=21 by have z0:=N4.out;have z1:=N5.out;simp only[bc];rw[if_neg (by simp_all),if_neg (by simp_all),if_neg hn]);go_wp2_with fail;refine bodyPost_ret (v:=.tuple #[.agg #[.int .i64 a,.int .u8 wa,.int .u8 gi,.bool al,.bool nu,d],.int .i64 21]) ?_ rfl ?_
         ·simp[results,Tryz.results42,go_sem,r0,r1,r2,r3,r4,r5]
         ·have k:=dA (B:=w.heap.size) dg rfl bo HO.out;exact⟨_,by rw[qT.out];rfl,k.2,hB.trans k.1.below⟩
       ·rw[b6] at kw;have KW:=hid kw;clear kw;have n6:1≤x.width∧x.width≤1099511627776:=by simpa using b6
        clear b6;go_wp2_with fail;refine(KW.out _).mono ?_;rintro e w8 ⟨rfl,rfl⟩;have qT:=hid (show bc x=0 by have z0:=N4.out;have z1:=N5.out;simp only[bc];rw[if_neg (by simp_all),if_pos (by simp_all)]);go_wp2_with fail;refine bodyPost_ret (v:=.tuple #[.agg #[.int .i64 a,.int .u8 wa,.int .u8 gi,.bool al,.bool nu,d],.int .i64 0]) ?_ rfl ?_
        ·simp[results,Tryz.results42,go_sem,r0,r1,r2,r3,r4,r5]
        ·have k:=dA (B:=w.heap.size) dg rfl bo HO.out;exact⟨_,by rw[qT.out];rfl,k.2,hB.trans k.1.below⟩
      ·have n5:¬x.op=20:=by simpa using b5
       have qT:=hid (show bc x=0 by have z0:=N4.out;simp only[bc];rw[if_neg (by simp_all),if_pos (by simp_all)]);go_wp2_with fail;refine bodyPost_ret (v:=.tuple #[.agg #[.int .i64 a,.int .u8 wa,.int .u8 gi,.bool al,.bool nu,d],.int .i64 0]) ?_ rfl ?_
       ·simp[results,Tryz.results42,go_sem,r0,r1,r2,r3,r4,r5]
       ·have k:=dA (B:=w.heap.size) dg rfl bo HO.out;exact⟨_,by rw[qT.out];rfl,k.2,hB.trans k.1.below⟩
   ·have p2:x.op=2:=by simpa using b3
    have q1:gp x.op=false:=by rw[p2];rfl
    rw[q1];have P2:=hid p2;clear wE p2;cases b2:((x.n:Int)==0)
    ·have n2:¬x.n=0:=by simpa using b2
     go_wp2_with fail;refine(eL x.op _).mono ?_;rintro e w9 ⟨rfl,rfl⟩;by_cases hn:(x.n:Int)=gj x.op
     ·have t1:((x.n:Int)==gj x.op)=true:=by simpa using hn
      have qT:=hid (show bc x=42 by have z0:=P2.out;simp only[bc];rw[if_neg (by simp_all),if_neg (by simp_all),if_pos hn]);go_wp2_with fail;refine bodyPost_ret (v:=.tuple #[.agg #[.int .i64 a,.int .u8 wa,.int .u8 gi,.bool al,.bool nu,d],.int .i64 42]) ?_ rfl ?_
      ·simp[results,Tryz.results42,go_sem,r0,r1,r2,r3,r4,r5]
      ·have k:=dA (B:=w.heap.size) dg rfl bo HO.out;exact⟨_,by rw[qT.out];rfl,k.2,hB.trans k.1.below⟩
     ·have t1:((x.n:Int)==gj x.op)=false:=by simpa using hn
      have qT:=hid (show bc x=21 by have z0:=P2.out;simp only[bc];rw[if_neg (by simp_all),if_neg (by simp_all),if_neg hn]);go_wp2_with fail;refine bodyPost_ret (v:=.tuple #[.agg #[.int .i64 a,.int .u8 wa,.int .u8 gi,.bool al,.bool nu,d],.int .i64 21]) ?_ rfl ?_
      ·simp[results,Tryz.results42,go_sem,r0,r1,r2,r3,r4,r5]
      ·have k:=dA (B:=w.heap.size) dg rfl bo HO.out;exact⟨_,by rw[qT.out];rfl,k.2,hB.trans k.1.below⟩
    ·have n2:x.n=0:=by simpa using b2
     have N2:=hid n2;clear n2;have qT:=hid (show bc x=0 by have z0:=P2.out;have z1:=N2.out;simp only[bc];rw[if_pos (by simp_all)]);go_wp2_with fail;refine bodyPost_ret (v:=.tuple #[.agg #[.int .i64 a,.int .u8 wa,.int .u8 gi,.bool al,.bool nu,d],.int .i64 0]) ?_ rfl ?_
     ·simp[results,Tryz.results42,go_sem,r0,r1,r2,r3,r4,r5]
     ·have k:=dA (B:=w.heap.size) dg rfl bo HO.out;exact⟨_,by rw[qT.out];rfl,k.2,hB.trans k.1.below⟩
  ·have p1:x.op=1:=by simpa using b1
   have q1:gp x.op=false:=by rw[p1];rfl
   have b3:(x.op==2)=false:=by rw[p1];rfl
   rw[q1];have P1:=hid p1;clear wE p1;cases b2:((x.n:Int)==0)
   ·have n2:¬x.n=0:=by simpa using b2
    go_wp2_with fail;refine(eL x.op _).mono ?_;rintro e w9 ⟨rfl,rfl⟩;by_cases hn:(x.n:Int)=gj x.op
    ·have t1:((x.n:Int)==gj x.op)=true:=by simpa using hn
     have qT:=hid (show bc x=42 by have z0:=P1.out;simp only[bc];rw[if_neg (by simp_all),if_neg (by simp_all),if_pos hn]);go_wp2_with fail;refine bodyPost_ret (v:=.tuple #[.agg #[.int .i64 a,.int .u8 wa,.int .u8 gi,.bool al,.bool nu,d],.int .i64 42]) ?_ rfl ?_
     ·simp[results,Tryz.results42,go_sem,r0,r1,r2,r3,r4,r5]
     ·have k:=dA (B:=w.heap.size) dg rfl bo HO.out;exact⟨_,by rw[qT.out];rfl,k.2,hB.trans k.1.below⟩
    ·have t1:((x.n:Int)==gj x.op)=false:=by simpa using hn
     have qT:=hid (show bc x=21 by have z0:=P1.out;simp only[bc];rw[if_neg (by simp_all),if_neg (by simp_all),if_neg hn]);go_wp2_with fail;refine bodyPost_ret (v:=.tuple #[.agg #[.int .i64 a,.int .u8 wa,.int .u8 gi,.bool al,.bool nu,d],.int .i64 21]) ?_ rfl ?_
     ·simp[results,Tryz.results42,go_sem,r0,r1,r2,r3,r4,r5]
     ·have k:=dA (B:=w.heap.size) dg rfl bo HO.out;exact⟨_,by rw[qT.out];rfl,k.2,hB.trans k.1.below⟩
   ·have n2:x.n=0:=by simpa using b2
    have N2:=hid n2;clear n2;have kg:=Cy x.v;cases bg:good x.v
    ·rw[bg] at kg;have KG:=hid kg;clear kg;go_wp2_with fail;refine(KG.out _).mono ?_;rintro e w2 ⟨rfl,b9⟩;clear x0 x1 x2 x3 x5 x6 o0 o1 o2 PS PT PU r0 r1 r2 r3 r4 r5 rf;replace hX:=hX.later b9;replace vJ:=vJ.later b9;replace dg:=dg.later b9;replace hB:=ae.then hB b9
     replace HO:=hid (HO.out.later b9);clear b9;have x0:=hX.cell 0;have x1:=hX.cell 1;have x2:=hX.cell 2;have x3:=hX.cell 3;have x5:=hX.cell 5;have x6:=hX.cell 6;have o0:=vJ.cell 0;have o1:=vJ.cell 1;have o2:=vJ.cell 2;have PS:=vJ.cell 3;have PT:=vJ.cell 4;have PU:=vJ.cell 5;have r0:=dg.cell 0;have r1:=dg.cell 1;have r2:=dg.cell 2;have r3:=dg.cell 3;have r4:=dg.cell 4;have r5:=dg.cell 5;have rf:=dg.frozen;unfold cu at o0 o1 o2 PS PT PU;simp only[List.getElem?_toArray,List.getElem?_cons_zero,List.getElem?_cons_succ] at x0 x1 x2 x3 x5 x6 o0 o1 o2 PS PT PU r0 r1 r2 r3 r4 r5;go_wp2_with fail;refine(eL x.op _).mono ?_;rintro e w9 ⟨rfl,rfl⟩;by_cases hn:(x.n:Int)=gj x.op
     ·have t1:((x.n:Int)==gj x.op)=true:=by simpa using hn
      have qT:=hid (show bc x=42 by have z0:=P1.out;have z1:=N2.out;simp only[bc];rw[if_neg (by simp_all),if_neg (by simp_all),if_pos hn]);go_wp2_with fail;refine bodyPost_ret (v:=.tuple #[.agg #[.int .i64 a,.int .u8 wa,.int .u8 gi,.bool al,.bool nu,d],.int .i64 42]) ?_ rfl ?_
      ·simp[results,Tryz.results42,go_sem,r0,r1,r2,r3,r4,r5]
      ·have k:=dA (B:=w.heap.size) dg rfl bo HO.out;exact⟨_,by rw[qT.out];rfl,k.2,hB.trans k.1.below⟩
     ·have t1:((x.n:Int)==gj x.op)=false:=by simpa using hn
      have qT:=hid (show bc x=21 by have z0:=P1.out;have z1:=N2.out;simp only[bc];rw[if_neg (by simp_all),if_neg (by simp_all),if_neg hn]);go_wp2_with fail;refine bodyPost_ret (v:=.tuple #[.agg #[.int .i64 a,.int .u8 wa,.int .u8 gi,.bool al,.bool nu,d],.int .i64 21]) ?_ rfl ?_
      ·simp[results,Tryz.results42,go_sem,r0,r1,r2,r3,r4,r5]
      ·have k:=dA (B:=w.heap.size) dg rfl bo HO.out;exact⟨_,by rw[qT.out];rfl,k.2,hB.trans k.1.below⟩
    ·rw[bg] at kg;have KG:=hid kg;clear kg;go_wp2_with fail;refine(KG.out _).mono ?_;rintro e w2 ⟨rfl,b9⟩;clear x0 x1 x2 x3 x5 x6 o0 o1 o2 PS PT PU r0 r1 r2 r3 r4 r5 rf;replace hX:=hX.later b9;replace vJ:=vJ.later b9;replace dg:=dg.later b9;replace hB:=ae.then hB b9
     replace HO:=hid (HO.out.later b9);clear b9;have x0:=hX.cell 0;have x1:=hX.cell 1;have x2:=hX.cell 2;have x3:=hX.cell 3;have x5:=hX.cell 5;have x6:=hX.cell 6;have o0:=vJ.cell 0;have o1:=vJ.cell 1;have o2:=vJ.cell 2;have PS:=vJ.cell 3;have PT:=vJ.cell 4;have PU:=vJ.cell 5;have r0:=dg.cell 0;have r1:=dg.cell 1;have r2:=dg.cell 2;have r3:=dg.cell 3;have r4:=dg.cell 4;have r5:=dg.cell 5;have rf:=dg.frozen;unfold cu at o0 o1 o2 PS PT PU;simp only[List.getElem?_toArray,List.getElem?_cons_zero,List.getElem?_cons_succ] at x0 x1 x2 x3 x5 x6 o0 o1 o2 PS PT PU r0 r1 r2 r3 r4 r5;have qT:=hid (show bc x=0 by have z0:=P1.out;have z1:=N2.out;simp only[bc];rw[if_pos (by simp_all)]);go_wp2_with fail;refine bodyPost_ret (v:=.tuple #[.agg #[.int .i64 a,.int .u8 wa,.int .u8 gi,.bool al,.bool nu,d],.int .i64 0]) ?_ rfl ?_
     ·simp[results,Tryz.results42,go_sem,r0,r1,r2,r3,r4,r5]
     ·have k:=dA (B:=w.heap.size) dg rfl bo HO.out;exact⟨_,by rw[qT.out];rfl,k.2,hB.trans k.1.below⟩
end Go.Proofs.YtfmbcoeallmnnaaGreatDoor
