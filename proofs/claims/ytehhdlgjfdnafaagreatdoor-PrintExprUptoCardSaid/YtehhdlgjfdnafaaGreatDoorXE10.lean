/- Parts of the proof. -/
import Derived.Test.YtehhdlgjfdnafaaGreatDoorXE9
namespace Go.Proofs.YtehhdlgjfdnafaaGreatDoor
open List
variable{p:Prop}
set_option maxHeartbeats 90000000
set_option maxRecDepth 100000
open Go.Lib (hid)
open Go.RowKit
def Tf (u:Nat->Value)(ch:List Nat)(vs:List Value)(i:Nat)(_:World)(v:Value):Prop:=
 match ch.idxOf? i with
 | some k=>vs[k]?=some v
 | none=>v=u i
def kB (l:List Oper):List Nat->Bool
 | a::b::r=>(match l[b]? with | some o=>fB o a | none=>false)&& kB l (b::r)
 | _=>true
def MQ (P:Program)(l:List Oper)(u:Nat->Value)(ch:List Nat)(G:List Value->World->Prop)(a0:Act)(i:Nat)(o:Oper):Prop:=
 ∀ρ w vs,bP ρ->G vs w->lS l (Tf u ch vs) a0.eval ρ w o (tmpsOf o)->o.guard=none/\
  match ch.idxOf? i with
  | none=>(execOp ρ o).run P w=.ok (.value (u i)) w
  | some k=>vs.length=k->wk P o ρ w λ v w'=>G (vs++ [v]) w'
def KL (P:Program)(l:List Oper)(u:Nat->Value)(ch:List Nat)(G:List Value->World->Prop)(a0:Act):List Oper->Nat->Prop
 | [],_=>True
 | o::rest,i=>MQ P l u ch G a0 i o/\KL P l u ch G a0 rest (i+1)
variable{P:Program}{L:List Oper}{u:Nat->Value}{ch:List Nat}{G:List Value->World->Prop}{a0:Act}
theorem Dt:∀ {l:List Oper} {k:Nat},KL P L u ch G a0 l k->∀i o,l[i]?=some o->MQ P L u ch G a0 (k+i) o
 | [],_,_,i,o,h=>by simp at h
 | x::l,k,hs,0,o,h=>by simp at h;subst h;exact hs.1
 | x::l,k,hs,i+1,o,h=>by have:=Dt hs.2 i o Tam;rwa [show k+1+i=k+(i+1) by omega] at this
variable{i k:Nat}
theorem Hr(h:ch.idxOf? i=some k):ch[k]?=some i:=by rw[List.idxOf?,findIdx?_eq_some_iff_getElem] at h;obtain⟨hk,h1,_⟩:=h;rw[getElem?_eq_getElem hk];simpa using h1
theorem Hs(h:ch.idxOf? i=none):i∉ch:=by intro hm;rw[List.idxOf?,findIdx?_eq_none_iff] at h;have:=h i hm;simp at this
theorem Q3(hn:ch.Nodup) (h:ch[k]?=some i):ch.idxOf? i=some k:=by
 obtain⟨hk,he⟩:=List.getElem?_eq_some_iff.1 h
 cases hc:ch.idxOf? i with
 | none=>exact absurd (mem_of_getElem? h) (Hs hc)
 | some k'=>have h2:=Hr hc;obtain⟨Q4,he'⟩:=List.getElem?_eq_some_iff.1 h2;congr 1;exact(getElem_inj hn).1 (he'.trans he.symm)
variable{l:List Oper}
theorem Du:∀ {ch:List Nat} {k a b:Nat},kB l ch=true->ch[k]?=some a->ch[k+1]?=some b->∃o,l[b]?=some o/\fB o a=true
 | [],_,_,_,_,h,_=>by simp at h
 | [x],0,_,_,_,_,h=>by simp at h
 | [x],_+1,_,_,_,h,_=>by simp at h
 | x::y::r,0,a,b,hc,h1,h2=>by
   simp at h1 h2;subst h1 h2;simp only[kB,Bool.and_eq_true] at hc;have:=hc.1;split at this
   ·rename_i o ho;exact⟨o,ho,this⟩
   ·cases this
 | x::y::r,k+1,a,b,hc,h1,h2=>by simp only[kB,Bool.and_eq_true] at hc;exact Du hc.2 (by simpa using h1) (by simpa using h2)
variable{V V':Nat->World->Value->Prop}{R:World->World->Prop}{w0:World}{m:Nat}{listed:Array Bool}{a:Act}{w:World}
theorem Inv.imp(I:Inv l V R a0 w0 m listed a w)(h:∀i w v,V i w v->V' i w v):Inv l V' R a0 w0 m listed a w:=
 ⟨I.r,I.defers,I.size,I.old,λ i o d h1 h2 h3=>h _ _ _ (I.new i o d h1 h2 h3),I.closed,I.len,I.tail⟩
variable{vs:List Value}
theorem Tg(v:Value)(i:Nat)(w:World)(x:Value)(h:Tf u ch vs i w x):Tf u ch (vs++ [v]) i w x:=by
 unfold Tf at*
 cases hk:ch.idxOf? i with
 | some k=>rw[hk] at h;simp only at h ⊢;obtain⟨hlt,_⟩:=List.getElem?_eq_some_iff.1 h;rw[getElem?_append_left hlt];exact h
 | none=>rw[hk] at h;exact h
section
variable {P:Program} {l zs:List Oper} {Q:Exit->Act->World->Prop} {u:Nat->Value} {ch:List Nat} {G:List Value->World->Prop} {a0:Act} {w0:World}
theorem zbX.Kar(h:p:=by
 have hK:=wD (V:=Tf u ch vs) (λ d=>a.eval (.tmp d)) l 0 a0 (λ i o d hi hd=>by
  rw[Nat.zero_add]
  have Ea:i < l.length:=by
   rcases Nat.lt_or_ge i l.length with h' | h'
   ·exact h'
   ·rw[getElem?_eq_none h'] at hi;cases hi
  exact I.new i o d hi (hall i Ea) hd) hf
 rw[<- ha] at hK;exact Zbj):p:=h
theorem Dv {N:Nat}(vs:List Value)(ay:cM l N l 0=true)(hz:dw (l++zs) zs l.length=true) {listed:Array Bool} {a:Act} {w:World}(hf:cN (Tf u ch vs) (λ a w=>wpList P (l++zs).toArray Q zs a w) l 0 a0 w)(I:Inv l (Tf u ch vs) (λ _ _=>True) a0 w0 (l++zs).length listed a w)
  (h0:bz l.length listed=0):wpAny P .any (l++zs).toArray Q zs.length listed a w:=by
 open zbX in exact ZaD
theorem zfd.Kbs(h:p:=by
 cases Ph:ch.idxOf? j with
 | none=>
   simp only[Ph] at hstep;refine jJ (T:=λ v w'=>v=u j/\w'=w) (ae hstep ⟨rfl,rfl⟩) ?_;rintro v w' ⟨rfl,rfl⟩;refine ih _ _ _ vs (I.step ay (λ _ _ _ _ h _=>h) (λ _ _ _ _ _=>trivial) wE BL wq eI trivial ?_) hg ?_ hvl Th
   ·unfold Tf;simp only[Ph]
   ·intro k i' hk;have hne:i'≠j:=λ e=>Hs Ph (e▸mem_of_getElem? hk)
    rw[fh _ _ _ Rv,if_neg hne];exact gw k i' hk
 | some k=>
   simp only[Ph] at hstep;have QS:=Hr Ph
   have hvk:vs.length=k:=by
    have h1:¬k < vs.length:=λ h=>by have:=(gw k j QS).2 h;rw[wq] at this;cases this
    match k,QS,h1 with
    | 0,_,h1=>omega
    | k+1,QS,h1=>obtain⟨WI,_⟩:=List.getElem?_eq_some_iff.1 QS;have hp:ch[k]?=some ch[k]:=getElem?_eq_getElem Taa;obtain⟨o',QN,he⟩:=Du hch hp QS;rw[wE] at QN;injection QN with QN;subst QN;have:=(gw k _ hp).1 (eI _ (cO.1 he));omega
   refine jJ (hstep hvk) ?_;intro v w' NI;have I':=(I.imp (λ i w x h=>Tg (ch:=ch) (u:=u) v i w x h));refine ih _ _ _ (vs++ [v]) (I'.step ay (λ _ _ _ _ h _=>h) (λ _ _ _ _ _=>trivial) wE BL wq eI trivial ?_) NI ?_ ?_ Th
   ·unfold Tf;simp only[Ph];rw[<- hvk];simp
   ·intro k' i' Q4;rw[fh _ _ _ Rv,length_append,length_singleton];by_cases hij:i'=j
    ·subst hij;have:=Q3 hnd Q4;rw[Ph] at this;injection this with this;simp only[if_true,true_iff];omega
    ·rw[if_neg hij,gw k' i' Q4];have hne:k'≠k:=λ e=>hij (by rw[e,QS] at Q4;injection Q4 with Q4;exact Q4.symm)
     omega
   ·obtain⟨WI,_⟩:=List.getElem?_eq_some_iff.1 QS;simp;omega):p:=h
theorem zap.Kab(h:p:=by have hst:=Dt hs j oj wE;rw[Nat.zero_add] at hst;have FY:=Inv.reads ay I wE wq eI (tmpsOf oj) (λ _ h=>h);obtain⟨hgd,hstep⟩:=hst a.eval w vs (lR a) hg FY;open zfd in exact ZcQ):p:=h
theorem gZ {id:Nat} {ops:List Oper}(zs:List Oper)(l:List Oper)(tV:ops=l++zs)(u:Nat->Value)(ch:List Nat)(G:List Value->World->Prop)(nw:∀vs w,G vs w->G vs w.drew)(hG:G [] w0)
  (hm:P.follows .mixedOrders=true) (ay:cM l a0.tmps.size l 0=true) (hz:dw (l++zs) zs l.length=true) (hch:kB l ch=true) (hnd:ch.Nodup) (Mj:ch.all (λ i=>decide (i < l.length))=true)
  (hs:KL P l u ch G a0 l 0) (hf:∀vs w,vs.length=ch.length->G vs w->cN (Tf u ch vs) (λ a w=>wpList P ops.toArray Q zs a w) l 0 a0 w):(Code.region id ops.toArray true).wp P Q a0 w0:=by
 subst tV
 have main:∀(fuel:Nat) (listed:Array Bool) (a:Act) (w:World) (vs:List Value),Inv l (Tf u ch vs) (λ _ _=>True) a0 w0 (l++zs).length listed a w->G vs w->(∀k i,ch[k]?=some i->(listed.getD i false=true↔k < vs.length))->vs.length<=ch.length->fuel=bz l.length listed+zs.length->wpAny P .any (l++zs).toArray Q fuel listed a w:=by
  intro fuel
  induction fuel with
  | zero=>
    intro listed a w vs I hg gw hvl WH;have h0:bz l.length listed=0:=by omega
    have hz0:zs.length=0:=by omega
    have hall:=dG h0;have hvs:vs.length=ch.length:=by exact ZcP
    have:=Dv vs ay hz (hf vs w hvs hg) I h0;rwa [hz0] at this
  | succ fuel ih=>
    intro listed a w vs I hg gw hvl WH;by_cases h0:bz l.length listed=0
    ·have hall:=dG h0;have hvs:vs.length=ch.length:=by exact ZcP
     have:=Dv vs ay hz (hf vs w hvs hg) I h0;exact ZeJ
    ·open zap in exact Zab
 refine wp_region_any hm ?_;have:=main (l++zs).toArray.size (Array.replicate (l++zs).toArray.size false) a0 w0.drew [] ⟨trivial,rfl,rfl,λ _ _=>rfl,(λ i o d _ h=>by rw[aS] at h;cases h),(λ i o _ h=>by rw[aS] at h;cases h),by simp,λ i _=>aS _ _⟩ (nw _ _ hG) (λ k i _=>by rw[aS];simp) Tae (by
  have:bz l.length (Array.replicate (l++zs).toArray.size false)=l.length:=by
   unfold bz
   rw[List.filter_eq_self.2 (λ i _=>by rw[aS];rfl),length_range]
  rw[this];simp)
 exact this
end
set_option linter.unusedVariables false
variable{b:World}
theorem af.cell{a:World}(h:af a b) {p:Addr}(hp:p.block < a.heap.size):b.cell? p=a.cell? p:=Below.cell h hp
theorem qA{a:World} {row:Option Nat}(h:a.grownBy b row) {p:Addr}(hp:p.block < a.heap.size)(hr:some p.block≠row):b.cell? p=a.cell? p:=by unfold World.cell?;rw[h.block p.block hp hr]
def AH (o0 o1 o2 o3 o4 o5 o6:Oper)(q d0 d1 d2 d3 d4 d5 d6:Tmp):Bool:=
 (tmpsOf o0== [q])&&(bw [o0,o1,o2,o3,o4,o5,o6] o0 q==none)&&(tmpsOf o1== [d0])&&(bw [o0,o1,o2,o3,o4,o5,o6] o1 d0==some 0)&&
 (tmpsOf o2== [0])&&(bw [o0,o1,o2,o3,o4,o5,o6] o2 0==none)&&(tmpsOf o3== [d2])&&(bw [o0,o1,o2,o3,o4,o5,o6] o3 d2==some 2)&&
 (tmpsOf o4== [d3])&&(bw [o0,o1,o2,o3,o4,o5,o6] o4 d3==some 3)&&(tmpsOf o5== [d1,d4])&&(bw [o0,o1,o2,o3,o4,o5,o6] o5 d1==some 1)&&(bw [o0,o1,o2,o3,o4,o5,o6] o5 d4==some 4)&&
 (tmpsOf o6== [q])&&(bw [o0,o1,o2,o3,o4,o5,o6] o6 q==none)&&
 (o0.dst==some d0)&&(o1.dst==some d1)&&(o2.dst==some d2)&&(o3.dst==some d3)&&(o4.dst==some d4)&&(o5.dst==some d5)&&(o6.dst==some d6)&&
 o0.guard.isNone && o1.guard.isNone && o2.guard.isNone && o3.guard.isNone && o4.guard.isNone && o5.guard.isNone && o6.guard.isNone
section
variable {P:Program} {β:Type} (f:β->List Value) (val:β->Value) (e:TypeId) (size base:Nat) (l:List β) (lv:Value) (Post:β->World->World->Prop) (w0:World)
def MR:List Value->World->Prop
 | [],w=>af w0 w
 | [a],w=>∃y w1 eD,a=val y/\af w0 w1/\Post y w1 eD/\af eD w
 | [a,s],w=>∃y w1 eD g0,a=val y/\s=.slice (some ⟨g0,0,none⟩) 1 1/\af w0 w1/\Post y w1 eD/\af eD w/\av w g0 e (f y).toArray
 | [a,s,v],w=>∃y w1 eD w2,a=val y/\af w0 w1/\Post y w1 eD/\af eD w2/\cz f e size w2 base lv l/\w2.grownBy w lv.ownBlock/\cz f e size w base v (l++ [y])/\(lv=.slice none 0 0->l=[]->cz f e size w w2.heap.size v [y])
 | _,_=>False
theorem KM (vs:List Value)(w:World)(h:MR f val e size base l lv Post w0 vs w):MR f val e size base l lv Post w0 vs w.drew:=by
 match vs,h with
 | [],h=>exact af.trans h (af.drew _)
 | [a],⟨y,w1,eD,h1,h2,h3,h4⟩=>exact ZfS
 | [a,s],⟨y,w1,eD,g0,h1,h2,h3,h4,h5,h6⟩=>exact Zg2
 | [a,s,v],⟨y,w1,eD,w2,h1,h2,h3,h4,h5,h6,h7,h8⟩=>exact⟨y,w1,eD,w2,h1,h2,h3,h4,h5,⟨h6.os,h6.tape,h6.output,h6.size,h6.block⟩,h7.later (af.drew _),λ a b=>(h8 a b).later (af.drew _)⟩
 | _::_::_::_::_,h=>exact h.elim
variable {f val e size base l lv Post w0}
variable {Q:Exit->Act->World->Prop} {a0:Act} {id:Nat} {o0 o1 o2 o3 o4 o5 o6 o7:Oper} {q d0 d1 d2 d3 d4 d5 d6:Tmp} {qb k g:Nat} {pq ptr:Value} {F:FuncId} {args:Array Value}
theorem zcv.Kax(h:p:=by
 have AJ:∀vs w,MR f val e size base l lv Post w0 vs w->w.cell? ⟨qb,k,none⟩=some lv:=by exact ZbM
 refine gZ [o7] [o0,o1,o2,o3,o4,o5,o6] rfl (λ i=>if i=0 then .pointer (some ⟨qb,k,none⟩)else if i=1 then lv else if i=2 then ptr else .pointer (some ⟨qb,k,none⟩)) [3,4,5] (MR f val e size base l lv Post w0) (KM f val e size base l lv Post w0) (af.refl w0) hm ay hz hch Tac rfl ?_ ?_
 ·refine⟨ZeY,ZeW,ZeZ,Zck,ZbN,?_,Ze0,trivial⟩
  ·intro ρ w vs hc hG hr;rw[t5] at hr;have r0:=hr.1;have r1:=hr.2.1;simp only[s5] at r0;simp only[s5'] at r1;refine⟨g5,?_⟩;show vs.length=2->_;intro hl
   match vs,hl with
   | [a,s],_=>
     have r1:some s=some (ρ (.tmp d4)):=r1;injection r1 with r1;obtain⟨y,w1,eD,gg,ha,hs,h2,h3,h4,h5⟩:=hG;obtain⟨k1,k2,k3⟩:=vO h2 h3 h4;obtain⟨v',w',hrun,ho,ZA⟩:=jZ (P:=P) (w:=w) t ty z bytes ht lO hzs hsz hf (h1 y) k2 gg h5 hlen ry (Nat.le_trans hbase k3);refine ae (hap ρ w _ v' w' r0 (r1.symm.trans hs) hrun) ⟨y,w1,eD,w,ha,h2,h3,h4,k2,ZA.grown,ho,?_⟩;intro hlv hl0;subst hl0;have k4:cz f e size w w.heap.size lv ([]:List β):=by rw[hlv];exact cz.nil
     obtain⟨v2,We,MF,xk,_⟩:=jZ (P:=P) (w:=w) t ty z bytes ht lO hzs hsz hf (h1 y) k4 gg h5 hlen ry (Nat.le_refl _);rw[hrun] at MF;injection MF with e1 e2;rw[e1,e2];exact xk
 ·exact Zbo):p:=h
theorem Ht (t ty:TypeId)(z:Value)(bytes:Nat)
  (hm:P.follows .mixedOrders=true) (ay:cM [o0,o1,o2,o3,o4,o5,o6] a0.tmps.size [o0,o1,o2,o3,o4,o5,o6] 0=true) (hz:dw [o0,o1,o2,o3,o4,o5,o6,o7] [o7] 7=true) (hch:kB [o0,o1,o2,o3,o4,o5,o6] [3,4,5]=true) (rf:AH o0 o1 o2 o3 o4 o5 o6 q d0 d1 d2 d3 d4 d5 d6=true)
  (hq:a0.eval (.tmp q)=pq) (h0:a0.eval (.tmp 0)=ptr)
  (Xx:∀ρ w,ρ (.tmp q)=pq->(execOp ρ o0).run P w=.ok (.value (.pointer (some ⟨qb,k,none⟩))) w) (Ti:∀ρ w,ρ (.tmp q)=pq->(execOp ρ o6).run P w=.ok (.value (.pointer (some ⟨qb,k,none⟩))) w)
  (Pj:∀ρ w,ρ (.tmp d0)=.pointer (some ⟨qb,k,none⟩)->w.cell? ⟨qb,k,none⟩=some lv->(execOp ρ o1).run P w=.ok (.value lv) w)
  (Q5:∀ρ w,ρ (.tmp 0)=ptr->(execOp ρ o2).run P w=.ok (.value ptr) w)
  (gw:∀ρ w,bP ρ->ρ (.tmp d2)=ptr->(execOp ρ o3).run P w=.ok (.enter F args) w)
  (hbs:∀ρ w y,ρ (.tmp d3)=val y->(execOp ρ o4).run P w=.ok (.value (.slice (some ⟨w.heap.size,0,none⟩) 1 1)) (w.alloc (.cells (f y).toArray e)))
  (hap:∀ρ w s v' w',ρ (.tmp d1)=lv->ρ (.tmp d4)=s->(Builtin.append_ #[t,t] ty #[lv,s]).run P w=.ok v' w'->(execOp ρ o5).run P w=.ok (.value v') w')
  (ht:P.underlying t=some (.slice e)) (lO:(P.info? e).map (λ i=>(i.zero,i.size,i.bytes))=some (some z,size,bytes)) (hzs:z.cells.size=size) (hsz:0 < size) (hf:∀x,(f x).length=size) (h1:∀y,∀u∈f y,u.oneCell'=true)
  (hown:cz f e size w0 base lv l) (hcell:w0.cell? ⟨qb,k,none⟩=some lv) (hqg:qb≠g) (Co:lv.ownBlock≠some g) (hlq:lv.ownBlock≠some qb) (hlen:(l.length+1)*bytes<=140737488355328) (ry:l.length+1<=140737488355328) (hbase:base<=w0.heap.size)
  (iH:∀w,af w0 w->Calls P F args w λ e w'=>∃y,e=.returned (val y)/\Post y w w') (Q6:∀y w w',Post y w w'->w.grownBy w' (some g))
  (rZ:∀y s v' w1 eD w2 W,af w0 w1->Post y w1 eD->af eD w2->cz f e size w2 base lv l->w2.grownBy W lv.ownBlock->cz f e size W base v' (l++ [y])->(lv=.slice none 0 0->l=[]->cz f e size W w2.heap.size v' [y])->W.cell? ⟨qb,k,none⟩=some lv->
    wpList P [o0,o1,o2,o3,o4,o5,o6,o7].toArray Q [o7] (((((((a0.put (some d0) (.pointer (some ⟨qb,k,none⟩))).put (some d1) lv).put (some d2) ptr).put (some d3) (val y)).put (some d4) s).put (some d5) v').put (some d6) (.pointer (some ⟨qb,k,none⟩))) W):
  (Code.region id [o0,o1,o2,o3,o4,o5,o6,o7].toArray true).wp P Q a0 w0:=by
 open zcv in exact ZaP
end
variable{α:Type}{f:α->List Value}{e:TypeId}{size base:Nat}{lv:Value}{y:α}
theorem qP{l:List α}   (t ty:TypeId)(z:Value)(bytes:Nat)(ht:P.underlying t=some (.slice e))(lO:(P.info? e).map (λ i=>(i.zero,i.size,i.bytes))=some (some z,size,bytes))(hzs:z.cells.size=size)(hsz:0 < size)
  (hf:∀x,(f x).length=size) (h1:∀u∈f y,u.oneCell'=true) (hown:cz f e size w base lv l)
  (g0:Nat) (hg0:av w g0 e (f y).toArray) (hlen:(l.length+1)*bytes<=140737488355328) (ry:l.length+1<=140737488355328) (hbase:base<=w.heap.size):
  ∃v' w',(Builtin.append_ #[t,t] ty #[lv,.slice (some ⟨g0,0,none⟩) 1 1]).run P w=.ok v' w'/\cz f e size w' base v' (l++ [y])/\AR f e size base lv l y w w'/\(v'.ownBlock=lv.ownBlock\/v'.ownBlock=some w.heap.size):=by
 obtain⟨v',w',hr,ho,ha⟩:=jZ t ty z bytes ht lO hzs hsz hf h1 hown g0 hg0 hlen ry hbase;obtain⟨i0,mm,hz0,hz1,hz2⟩:=info_parts lO;obtain⟨v2,w2,hr2,_,_,h4⟩:=np (P:=P) w base t ty e i0 z size bytes ht mm hz0 hz1 hz2 hzs hsz lv l.length (l.flatMap f) hown (g0+1) (some ⟨g0,0,none⟩) 1 1 (f y) ⟨by rw[hf];omega,λ _=>⟨_,rfl,Nat.lt_succ_self _,by
  intro j u hu
  have:(Addr.add ⟨g0,0,none⟩ j)=⟨g0,j,none⟩:=by unfold Addr.add;split <;> simp_all
  rw[this,hg0.cell]
  simpa using hu⟩⟩ h1 TaH hlen hbase
 rw[hr] at hr2;injection hr2 with e1 e2;subst e1 e2;exact⟨v',w',hr,ho,ha,h4⟩
variable{v:Value}{ops:Array Oper}{rest:List Oper}{o:Oper}{Q:Exit->Act->World->Prop}
theorem uI{l:List α}       (hgd:o.guard=none)(s x:Operand)(t:TypeId)
  (ho:o.op=.call { callee:=.builtin .append,args:= #[s,x],argTypes:= #[t,t] })
  (z:Value) (bytes:Nat) (ht:P.underlying t=some (.slice e)) (lO:(P.info? e).map (λ i=>(i.zero,i.size,i.bytes))=some (some z,size,bytes)) (hzs:z.cells.size=size) (hsz:0 < size)
  (y:α) (hf:(f y).length=size) (h1:∀u∈f y,u.oneCell'=true)
  (hs:a.eval s=v) (hown:cz f e size w base v l)
  (g:Nat) (hx:a.eval x=.slice (some ⟨g,0,none⟩) 1 1) (hg:av w g e (f y).toArray)
  (hlen:(l.length+1)*bytes<=140737488355328) (ry:l.length+1<=140737488355328) (hbase:base<=w.heap.size)
  (h:∀v' w',cz f e size w' base v' (l++ [y])->w.grownBy w' v.ownBlock->(v'.ownBlock=v.ownBlock\/v'.ownBlock=some w.heap.size)->wpList P ops Q rest (a.put o.dst v') w'):wpList P ops Q (o::rest) a w:=by
 obtain⟨i0,mm,hz0,hz1,hz2⟩:=info_parts lO;refine og w hgd s x t ho base e i0 z size bytes ht mm hz0 hz1 hz2 hzs hsz v l.length (l.flatMap f) hs hown (g+1) (some ⟨g,0,none⟩) 1 1 (f y) hx ⟨by omega,λ _=>⟨_,rfl,Nat.lt_succ_self _,?_⟩⟩ h1 TaH hlen hbase ?_
 ·exact Zeq
 ·intro v' w' h2 h3 h4;refine h v' w' ?_ h3 h4;exact ZgL
section
variable {P:Program} {β:Type} (f:β->List Value) (val:β->Value) (e:TypeId) (size base:Nat) (l:List β) (lv:Value) (Post:β->World->World->Prop) (w0:World)
def Fu:List Value->World->Prop
 | [],w=>af w0 w
 | [a],w=>∃y w1 eD,a=val y/\af w0 w1/\Post y w1 eD/\af eD w
 | [a,s],w=>∃y w1 eD g0,a=val y/\s=.slice (some ⟨g0,0,none⟩) 1 1/\af w0 w1/\Post y w1 eD/\af eD w/\av w g0 e (f y).toArray
 | [a,s,v],w=>∃y w1 eD w2,a=val y/\af w0 w1/\Post y w1 eD/\af eD w2/\cz f e size w2 base lv l/\w2.grownBy w lv.ownBlock/\cz f e size w base v (l++ [y])/\(v.ownBlock=lv.ownBlock\/v.ownBlock=some w2.heap.size)
 | _,_=>False
theorem Iq (vs:List Value)(w:World)(h:Fu f val e size base l lv Post w0 vs w):Fu f val e size base l lv Post w0 vs w.drew:=by
 match vs,h with
 | [],h=>exact af.trans h (af.drew _)
 | [a],⟨y,w1,eD,h1,h2,h3,h4⟩=>exact ZfS
 | [a,s],⟨y,w1,eD,g0,h1,h2,h3,h4,h5,h6⟩=>exact Zg2
 | [a,s,v],⟨y,w1,eD,w2,h1,h2,h3,h4,h5,h6,h7,h8⟩=>exact⟨y,w1,eD,w2,h1,h2,h3,h4,h5,⟨h6.os,h6.tape,h6.output,h6.size,h6.block⟩,h7.later (af.drew _),h8⟩
 | _::_::_::_::_,h=>exact h.elim
variable {f val e size base l lv Post w0}
variable {Q:Exit->Act->World->Prop} {a0:Act} {id:Nat} {o0 o1 o2 o3 o4 o5 o6 o7:Oper} {q d0 d1 d2 d3 d4 d5 d6:Tmp} {qb k g:Nat} {pq ptr:Value} {F:FuncId} {args:Array Value}
theorem zcw.Kax(h:p:=by
 have AJ:∀vs w,Fu f val e size base l lv Post w0 vs w->w.cell? ⟨qb,k,none⟩=some lv:=by exact ZbM
 refine gZ [o7] [o0,o1,o2,o3,o4,o5,o6] rfl (λ i=>if i=0 then .pointer (some ⟨qb,k,none⟩)else if i=1 then lv else if i=2 then ptr else .pointer (some ⟨qb,k,none⟩)) [3,4,5] (Fu f val e size base l lv Post w0) (Iq f val e size base l lv Post w0) (af.refl w0) hm ay hz hch Tac rfl ?_ ?_
 ·refine⟨ZeY,ZeW,ZeZ,Zck,ZbN,?_,Ze0,trivial⟩
  ·intro ρ w vs hc hG hr;rw[t5] at hr;have r0:=hr.1;have r1:=hr.2.1;simp only[s5] at r0;simp only[s5'] at r1;refine⟨g5,?_⟩;show vs.length=2->_;intro hl
   match vs,hl with
   | [a,s],_=>have r1:some s=some (ρ (.tmp d4)):=r1;injection r1 with r1;obtain⟨y,w1,eD,gg,ha,hs,h2,h3,h4',h5⟩:=hG;obtain⟨k1,k2,k3⟩:=vO h2 h3 h4';obtain⟨v',w',hrun,ho,ZA,h4⟩:=qP (P:=P) (w:=w) t ty z bytes ht lO hzs hsz hf (h1 y) k2 gg h5 hlen ry (Nat.le_trans hbase k3);exact ae (hap ρ w _ v' w' r0 (r1.symm.trans hs) hrun) ⟨y,w1,eD,w,ha,h2,h3,h4',k2,ZA.grown,ho,h4⟩
 ·exact Zbo):p:=h
theorem Fv (t ty:TypeId)(z:Value)(bytes:Nat)
  (hm:P.follows .mixedOrders=true) (ay:cM [o0,o1,o2,o3,o4,o5,o6] a0.tmps.size [o0,o1,o2,o3,o4,o5,o6] 0=true) (hz:dw [o0,o1,o2,o3,o4,o5,o6,o7] [o7] 7=true) (hch:kB [o0,o1,o2,o3,o4,o5,o6] [3,4,5]=true) (rf:AH o0 o1 o2 o3 o4 o5 o6 q d0 d1 d2 d3 d4 d5 d6=true)
  (hq:a0.eval (.tmp q)=pq) (h0:a0.eval (.tmp 0)=ptr)
  (Xx:∀ρ w,ρ (.tmp q)=pq->(execOp ρ o0).run P w=.ok (.value (.pointer (some ⟨qb,k,none⟩))) w) (Ti:∀ρ w,ρ (.tmp q)=pq->(execOp ρ o6).run P w=.ok (.value (.pointer (some ⟨qb,k,none⟩))) w)
  (Pj:∀ρ w,ρ (.tmp d0)=.pointer (some ⟨qb,k,none⟩)->w.cell? ⟨qb,k,none⟩=some lv->(execOp ρ o1).run P w=.ok (.value lv) w)
  (Q5:∀ρ w,ρ (.tmp 0)=ptr->(execOp ρ o2).run P w=.ok (.value ptr) w)
  (gw:∀ρ w,bP ρ->ρ (.tmp d2)=ptr->(execOp ρ o3).run P w=.ok (.enter F args) w)
  (hbs:∀ρ w y,ρ (.tmp d3)=val y->(execOp ρ o4).run P w=.ok (.value (.slice (some ⟨w.heap.size,0,none⟩) 1 1)) (w.alloc (.cells (f y).toArray e)))
  (hap:∀ρ w s v' w',ρ (.tmp d1)=lv->ρ (.tmp d4)=s->(Builtin.append_ #[t,t] ty #[lv,s]).run P w=.ok v' w'->(execOp ρ o5).run P w=.ok (.value v') w')
  (ht:P.underlying t=some (.slice e)) (lO:(P.info? e).map (λ i=>(i.zero,i.size,i.bytes))=some (some z,size,bytes)) (hzs:z.cells.size=size) (hsz:0 < size) (hf:∀x,(f x).length=size) (h1:∀y,∀u∈f y,u.oneCell'=true)
  (hown:cz f e size w0 base lv l) (hcell:w0.cell? ⟨qb,k,none⟩=some lv) (hqg:qb≠g) (Co:lv.ownBlock≠some g) (hlq:lv.ownBlock≠some qb) (hlen:(l.length+1)*bytes<=140737488355328) (ry:l.length+1<=140737488355328) (hbase:base<=w0.heap.size)
  (iH:∀w,af w0 w->Calls P F args w λ e w'=>∃y,e=.returned (val y)/\Post y w w') (Q6:∀y w w',Post y w w'->w.grownBy w' (some g))
  (rZ:∀y s v' w1 eD w2 W,af w0 w1->Post y w1 eD->af eD w2->cz f e size w2 base lv l->w2.grownBy W lv.ownBlock->cz f e size W base v' (l++ [y])->(v'.ownBlock=lv.ownBlock\/v'.ownBlock=some w2.heap.size)->W.cell? ⟨qb,k,none⟩=some lv->
    wpList P [o0,o1,o2,o3,o4,o5,o6,o7].toArray Q [o7] (((((((a0.put (some d0) (.pointer (some ⟨qb,k,none⟩))).put (some d1) lv).put (some d2) ptr).put (some d3) (val y)).put (some d4) s).put (some d5) v').put (some d6) (.pointer (some ⟨qb,k,none⟩))) W):
  (Code.region id [o0,o1,o2,o3,o4,o5,o6,o7].toArray true).wp P Q a0 w0:=by
 open zcw in exact ZaP
end
def Um (o0 o1 o2 o3 o4 o5 o6 o7 o8 o9:Oper)(q s d0 d1 d2 d3 d4 d5 d6 d7 d8 d9:Tmp):Bool:=
 (tmpsOf o0== [s])&&(bw [o0,o1,o2,o3,o4,o5,o6,o7,o8,o9] o0 s==none)&&(tmpsOf o1== [q])&&(bw [o0,o1,o2,o3,o4,o5,o6,o7,o8,o9] o1 q==none)&&(tmpsOf o2== [d1])&&(bw [o0,o1,o2,o3,o4,o5,o6,o7,o8,o9] o2 d1==some 1)&&(tmpsOf o3== [d0,d2])&&(bw [o0,o1,o2,o3,o4,o5,o6,o7,o8,o9] o3 d0==some 0)&&(bw [o0,o1,o2,o3,o4,o5,o6,o7,o8,o9] o3 d2==some 2)&&(tmpsOf o4== [q])&&(bw [o0,o1,o2,o3,o4,o5,o6,o7,o8,o9] o4 q==none)&&(tmpsOf o5== [d4])&&(bw [o0,o1,o2,o3,o4,o5,o6,o7,o8,o9] o5 d4==some 4)&&(tmpsOf o6== [d3,d5])&&(bw [o0,o1,o2,o3,o4,o5,o6,o7,o8,o9] o6 d3==some 3)&&(bw [o0,o1,o2,o3,o4,o5,o6,o7,o8,o9] o6 d5==some 5)&&(tmpsOf o7== [q])&&(bw [o0,o1,o2,o3,o4,o5,o6,o7,o8,o9] o7 q==none)&&(tmpsOf o8== [d7])&&(bw [o0,o1,o2,o3,o4,o5,o6,o7,o8,o9] o8 d7==some 7)&&(tmpsOf o9== [d6,d8])&&(bw [o0,o1,o2,o3,o4,o5,o6,o7,o8,o9] o9 d6==some 6)&&(bw [o0,o1,o2,o3,o4,o5,o6,o7,o8,o9] o9 d8==some 8)&&(o0.dst==some d0)&&(o1.dst==some d1)&&(o2.dst==some d2)&&(o3.dst==some d3)&&(o4.dst==some d4)&&(o5.dst==some d5)&&(o6.dst==some d6)&&(o7.dst==some d7)&&(o8.dst==some d8)&&(o9.dst==some d9)&& o0.guard.isNone && o1.guard.isNone && o2.guard.isNone && o3.guard.isNone && o4.guard.isNone && o5.guard.isNone && o6.guard.isNone && o7.guard.isNone && o8.guard.isNone && o9.guard.isNone
section
variable {P:Program} {J:List Value->World->Prop} {w0:World} {Q:Exit->Act->World->Prop} {a0:Act} {id:Nat} {o0 o1 o2 o3 o4 o5 o6 o7 o8 o9 mg:Oper} {q s d0 d1 d2 d3 d4 d5 d6 d7 d8 d9:Tmp} {pq v0 p1 p2 p3 s1 s2 s3:Value} {A1 A2 A3:Addr}
theorem IA (t:TypeId)
  (nw:∀vs w,J vs w->J vs w.drew) (hJ:J [] w0)
  (hm:P.follows .mixedOrders=true) (ay:cM [o0,o1,o2,o3,o4,o5,o6,o7,o8,o9] a0.tmps.size [o0,o1,o2,o3,o4,o5,o6,o7,o8,o9] 0=true) (hz:dw ([o0,o1,o2,o3,o4,o5,o6,o7,o8,o9]++ [mg]) [mg] 10=true) (hch:kB [o0,o1,o2,o3,o4,o5,o6,o7,o8,o9] [3,6,9]=true) (rf:Um o0 o1 o2 o3 o4 o5 o6 o7 o8 o9 q s d0 d1 d2 d3 d4 d5 d6 d7 d8 d9=true)
  (hq:a0.eval (.tmp q)=pq) (h0:a0.eval (.tmp s)=v0)
  (Q5:∀ρ w,ρ (.tmp s)=v0->(execOp ρ o0).run P w=.ok (.value v0) w)
  (hf1:∀ρ w,ρ (.tmp q)=pq->(execOp ρ o1).run P w=.ok (.value p1) w) (hf2:∀ρ w,ρ (.tmp q)=pq->(execOp ρ o4).run P w=.ok (.value p2) w) (hf3:∀ρ w,ρ (.tmp q)=pq->(execOp ρ o7).run P w=.ok (.value p3) w)
  (hc:∀vs w,J vs w->w.cell? A1=some s1/\w.cell? A2=some s2/\w.cell? A3=some s3)
  (tO:∀ρ w,ρ (.tmp d1)=p1->w.cell? A1=some s1->(execOp ρ o2).run P w=.ok (.value s1) w) (hl2:∀ρ w,ρ (.tmp d4)=p2->w.cell? A2=some s2->(execOp ρ o5).run P w=.ok (.value s2) w) (Ra:∀ρ w,ρ (.tmp d7)=p3->w.cell? A3=some s3->(execOp ρ o8).run P w=.ok (.value s3) w)
  (aja:∀ρ w v x v' w',ρ (.tmp d0)=v->ρ (.tmp d2)=x->(Builtin.append_ #[t,t] t #[v,x]).run P w=.ok v' w'->(execOp ρ o3).run P w=.ok (.value v') w')
  (ajb:∀ρ w v x v' w',ρ (.tmp d3)=v->ρ (.tmp d5)=x->(Builtin.append_ #[t,t] t #[v,x]).run P w=.ok v' w'->(execOp ρ o6).run P w=.ok (.value v') w')
  (ajc:∀ρ w v x v' w',ρ (.tmp d6)=v->ρ (.tmp d8)=x->(Builtin.append_ #[t,t] t #[v,x]).run P w=.ok v' w'->(execOp ρ o9).run P w=.ok (.value v') w')
  (ha1:∀w,J [] w->∃v' w',(Builtin.append_ #[t,t] t #[v0,s1]).run P w=.ok v' w'/\J [v'] w')
  (ha2:∀a w,J [a] w->∃v' w',(Builtin.append_ #[t,t] t #[a,s2]).run P w=.ok v' w'/\J [a,v'] w')
  (ha3:∀a b w,J [a,b] w->∃v' w',(Builtin.append_ #[t,t] t #[b,s3]).run P w=.ok v' w'/\J [a,b,v'] w')
  (rZ:∀a b c W,J [a,b,c] W->wpList P [o0,o1,o2,o3,o4,o5,o6,o7,o8,o9,mg].toArray Q [mg] ((((((((((a0.put (some d0) v0).put (some d1) p1).put (some d2) s1).put (some d3) a).put (some d4) p2).put (some d5) s2).put (some d6) b).put (some d7) p3).put (some d8) s3).put (some d9) c) W):
  (Code.region id [o0,o1,o2,o3,o4,o5,o6,o7,o8,o9,mg].toArray true).wp P Q a0 w0:=by
 simp only[Um,Bool.and_eq_true,beq_iff_eq,Option.isNone_iff_eq_none] at rf;obtain⟨⟨⟨⟨⟨⟨⟨⟨⟨⟨⟨⟨⟨⟨⟨⟨⟨⟨⟨⟨⟨⟨⟨⟨⟨⟨⟨⟨⟨⟨⟨⟨⟨⟨⟨⟨⟨⟨⟨⟨⟨⟨t0,m0⟩,t1⟩,m1⟩,t2⟩,m2⟩,t3⟩,m3⟩,m3'⟩,t4⟩,m4⟩,t5⟩,m5⟩,t6⟩,m6⟩,m6'⟩,t7⟩,m7⟩,t8⟩,m8⟩,t9⟩,m9⟩,m9'⟩,e0⟩,e1⟩,e2⟩,e3⟩,e4⟩,e5⟩,e6⟩,e7⟩,e8⟩,e9⟩,g0⟩,g1⟩,g2⟩,g3⟩,g4⟩,g5⟩,g6⟩,g7⟩,g8⟩,g9⟩:=rf;refine gZ [mg] [o0,o1,o2,o3,o4,o5,o6,o7,o8,o9] rfl (λ i=>if i=0 then v0 else if i=1 then p1 else if i=2 then s1 else if i=4 then p2 else if i=5 then s2 else if i=7 then p3 else s3) [3,6,9] J nw hJ hm ay hz hch Tac rfl ?_ ?_
 ·refine⟨?_,?_,?_,?_,?_,?_,?_,?_,?_,?_,trivial⟩
  ·intro ρ w vs hcs hG hr;rw[t0] at hr;have r0:=hr.1;simp only[m0] at r0;exact⟨g0,Q5 ρ w (r0.trans h0)⟩
  ·intro ρ w vs hcs hG hr;rw[t1] at hr;have r0:=hr.1;simp only[m1] at r0;exact⟨g1,hf1 ρ w (r0.trans hq)⟩
  ·intro ρ w vs hcs hG hr;rw[t2] at hr;have r0:=hr.1;simp only[m2] at r0;exact⟨g2,tO ρ w r0 (hc _ _ hG).1⟩
  ·intro ρ w vs hcs hG hr;rw[t3] at hr;have r0:=hr.1;simp only[m3] at r0;have r1:=hr.2.1;simp only[m3'] at r1;refine⟨g3,?_⟩;show vs.length=0->_;intro hl;obtain rfl:=eq_nil_of_length_eq_zero hl;obtain⟨v',w',hrun,hj⟩:=ha1 w hG;exact ae (aja ρ w _ _ v' w' r0 r1 hrun) hj
  ·intro ρ w vs hcs hG hr;rw[t4] at hr;have r0:=hr.1;simp only[m4] at r0;exact⟨g4,hf2 ρ w (r0.trans hq)⟩
  ·intro ρ w vs hcs hG hr;rw[t5] at hr;have r0:=hr.1;simp only[m5] at r0;exact⟨g5,hl2 ρ w r0 (hc _ _ hG).2.1⟩
  ·intro ρ w vs hcs hG hr;rw[t6] at hr;have r0:=hr.1;simp only[m6] at r0;have r1:=hr.2.1;simp only[m6'] at r1;refine⟨g6,?_⟩;show vs.length=1->_;intro hl
   match vs,hl with
   | [a],_=>have r0:some a=some (ρ (.tmp d3)):=r0;injection r0 with r0;obtain⟨v',w',hrun,hj⟩:=ha2 a w hG;exact ae (ajb ρ w _ _ v' w' r0.symm r1 hrun) hj
  ·intro ρ w vs hcs hG hr;rw[t7] at hr;have r0:=hr.1;simp only[m7] at r0;exact⟨g7,hf3 ρ w (r0.trans hq)⟩
  ·intro ρ w vs hcs hG hr;rw[t8] at hr;have r0:=hr.1;simp only[m8] at r0;exact⟨g8,Ra ρ w r0 (hc _ _ hG).2.2⟩
  ·intro ρ w vs hcs hG hr;rw[t9] at hr;have r0:=hr.1;simp only[m9] at r0;have r1:=hr.2.1;simp only[m9'] at r1;refine⟨g9,?_⟩;show vs.length=2->_;intro hl
   match vs,hl with
   | [a,b],_=>have r0:some b=some (ρ (.tmp d6)):=r0;injection r0 with r0;obtain⟨v',w',hrun,hj⟩:=ha3 a b w hG;exact ae (ajc ρ w _ _ v' w' r0.symm r1 hrun) hj
 ·intro vs w hl hG
  match vs,hl with
  | [a,b,c],_=>simp only[cN,e0,e1,e2,e3,e4,e5,e6,e7,e8,e9];intro a0' z0 a1 z1 a2 z2 a3 z3 a4 z4 a5 z5 a6 z6 a7 z7 a8 z8 a9 z9;have z0:a0'=v0:=z0;have z1:a1=p1:=z1;have z2:a2=s1:=z2;have z3:some a=some a3:=z3;have z4:a4=p2:=z4;have z5:a5=s2:=z5;have z6:some b=some a6:=z6;have z7:a7=p3:=z7;have z8:a8=s3:=z8;have z9:some c=some a9:=z9;injection z3 with z3;injection z6 with z6;injection z9 with z9;rw[z0,z1,z2,<- z3,z4,z5,<- z6,z7,z8,<- z9];exact rZ a b c w hG
end
open Go.ChangeShapes Go.WideShapes Go.ChangeAt
set_option linter.unusedSimpArgs false
theorem cx (w:World)(q:Nat)(cs:Array Value):w.grownBy (w.setRow q cs) (some q):=
 ⟨rfl,rfl,rfl,by simp,λ i hi hne=>setRow_other w q i cs (λ e=>hne (by rw[e]))⟩
variable{B q:Nat}
theorem ie(w:World)(hq:q < B)(cs:Array Value):∀b,ep B w b->(∀o,(w.setRow q cs).cell? ⟨b,o,none⟩=w.cell? ⟨b,o,none⟩)/\ep B (w.setRow q cs) b:=λ b hb=>
 ⟨cell_of_heap (setRow_other w q b cs (by have:=hb.1;omega)),hb.1,by rw[size_setRow];exact hb.2⟩
variable{T:TypeId}{old:Array Value}
theorem av.row(h:av w q T old)(cs:Array Value):av (w.setRow q cs) q T cs:=setRow_heap w q old cs T (0,0) h
theorem av.gu{b:Nat}  (h:av w b T old)(hq:b≠q)(cs:Array Value):av (w.setRow q cs) b T old:=(setRow_other w q b cs hq).trans h
variable{g:Nat}{cs:Array Value}{fr:Nat×Nat}
theorem Ir{t:TypeId}  (hg:w.heap[g]?=some (.cells cs t fr)):w.setRow g cs=w:=by
 have hh:(w.setRow g cs).heap=w.heap:=by
  apply Array.ext_getElem?;intro i;by_cases hi:i=g
  ·subst hi;exact(setRow_heap w i cs cs t fr hg).trans hg.symm
  ·exact setRow_other w g i cs hi
 cases w;simp only[World.setRow] at hh ⊢;rw[hh]
variable{fn:Func}{ty:TypeId}
theorem Fz{p u v:Tmp} (h:fn.results= #[.cell p ty,.tmp u,.tmp v])(tmps:Array Value)(w:World)(g:Nat)(t:TypeId)(cs:Array Value)(fr:Nat×Nat)(d:TypeDesc)(x y:Value)
  (hp:tmps.getD p undef=.pointer (some ⟨g,0,none⟩)) (hg:w.heap[g]?=some (.cells cs t fr))
  (hu:P.underlying ty=some d) (hd:(match d with | .struct _ | .array _ _=>true | _=>false)=true) (hi:(P.info? ty).map (·.size)=some cs.size) (hx:tmps.getD u undef=x) (hy:tmps.getD v undef=y):
  (results fn tmps).run P w=.ok (.tuple #[.agg cs,x,y]) w:=by
 have hp':tmps[p]?.getD undef=.pointer (some ⟨g,0,none⟩):=by simpa using hp
 have hx':tmps[u]?.getD undef=x:=by simpa using hx
 have hy':tmps[v]?.getD undef=y:=by simpa using hy
 simp[results,h,hp',hx',hy',asAddr,Sem.run_bind,run_loadVar_row w g t ty cs fr d hg hu hd hi,Result.andThen]
variable{chain:List PanicEntry}
theorem aj{Q:Ending->World->Prop}   (hd:a.defers=[])(h:Q (.panicked chain) w):bodyPost P fn Q (.panic chain) a w:=⟨hd,h⟩
variable{ρ:bj}{W:World}{σ:dO}{big:Bool}
theorem gP.row(h:gP ρ W w σ big)(hW:ρ.g < W.heap.size)(hq:W.heap.size<=q)(cs:Array Value):gP ρ W (w.setRow q cs) σ big:=
 h.own hW (cx w q cs) (λ G e=>by injection e with e;omega)
variable{β:Type}
theorem XS{f:β->List Value}  (hf:∀x,(f x).length=size)  {G:Nat} {y:β}(h:av w G e (f y).toArray)(hb:base<=G):cz f e size w base (.slice (some ⟨G,0,none⟩) 1 1) [y]:=by
 refine⟨by simp[hf],.inr ⟨G,1,(f y).toArray,rfl,hb,h,Nat.le_refl _,?_,by simp[hf],?_⟩⟩
 ·unfold maxLen;omega
 ·simp[hf,take_of_length_le]
theorem Pg (v:Val)(w:World):Calls Tryz.prog 203 #[.agg #[.int .u8 v.k,.int .i64 v.n,.string v.s]] w λ e w'=>e=.returned (.agg #[.int .u8 1,.int .u8 v.k,.int .i64 v.n,.string v.s,.string ⟨#[]⟩,.int .i64 0,.slice none 0 0])/\Below w.heap.size w w':=by go_enter Tryz.func203,Tryz.ntmps203;go_wp2_with fail;refine bodyPost_ret (v:=.agg #[.int .u8 1,.int .u8 v.k,.int .i64 v.n,.string v.s,.string ⟨#[]⟩,.int .i64 0,.slice none 0 0]) ?_ rfl ⟨rfl,af.then (aa w _) (aa _ _)⟩;simp[results,Tryz.results203,go_sem]
variable{t:Wd}{r:aF}
theorem Ln(hk:t.k=1)(hr:jT t.s=false)(ρ:bj)(w:World)(h:ρ.at w (.good (t::r)) false):
  Calls Tryz.prog 130 #[ρ.ptr] w λ e w'=>∃n:ByteArray,n=⟨t.s.toArray⟩/\e=.returned (.string n)/\gP ρ w w' (.good r) false:=by refine(Xv ρ w _ false h).mono ?_;rintro e w' ⟨x,rfl,d,hg⟩;rw[tj,if_pos ⟨hk,hr⟩] at d;simp only[pG,ct,hk,hr,and_self,if_true] at hg;exact⟨x,hg,rfl,d⟩
theorem za4.Kah(h:p:=by
 have hk:=HK.out;have hst:=bj.at.step HF.out (show tk.w.k≠0 by omega);have HST:=hid hst;have HX:=HTB.out.far (p:=⟨ρ.g,1,none⟩) Tad (.int .i64 ((ρ.n:Int) - r.length));obtain⟨s0,s1,s2,s3,_⟩:=aI HX;clear HX hst;go_wp2_with (go_at_call 203;refine(Pg ⟨2,tk.w.n,⟨#[]⟩⟩ _).mono ?_;rintro e w4 ⟨rfl,b4⟩;have XQ:=(lL.out.far (p:=⟨ρ.g,1,none⟩) Tad (.int .i64 ((ρ.n:Int) - r.length))).later b4;have aiG:=hid XQ;have B4:=hid b4;obtain⟨z0,z1,z2,z3,z4,z5,z6⟩:=gI XQ;obtain⟨y0,y1,y2,y3,y4,y5,y6⟩:=cf XQ;clear XQ b4);have HP:=gJ aiG.out ⟨1,⟨2,tk.w.n,⟨#[]⟩⟩,⟨#[]⟩,0,none,0,0⟩;have HR:=dV HP;unfold fZ at HR;obtain⟨r0,r1,r2,r3,r4,r5,r6⟩:=HR;refine bodyPost_ret (v:=dA ⟨1,⟨2,tk.w.n,⟨#[]⟩⟩,⟨#[]⟩,0,none,0,0⟩) Zg9 rfl ?_
 ·exact Nd.put (t:=oM ⟨2,tk.w.n,ByteArray.empty⟩) aZ (Nat.le_refl _) ((HD.out.trans HST.out).later B4.out) (RN _ _ _)):p:=h
theorem TY(hk:t.k=2):Ll (t::r) (oM ⟨2,t.n,ByteArray.empty⟩) r:=by intro ρ w h;have HK:=hid hk;clear hk;open za4 in exact Zal
theorem za5.Kah(h:p:=by
 have n2:((tk.w.k:Int)==2)=false:=by rw[beq_eq_false_iff_ne];have:=aev.out.i;omega
 have n3:((tk.w.k:Int)==3)=false:=by rw[beq_eq_false_iff_ne];have:=aev.out.s;omega
 go_wp2_with fail;refine(gY ρ _ _ false HF.out ⟨#[116,114,117,101]⟩ (show(dO.good (tk.w::r)).head (⟨#[116,114,117,101]⟩:ByteArray).data.toList=false from H1.out)).mono ?_;rintro e w1 ⟨rfl,d1⟩;go_wp2_with fail;refine(gY ρ _ _ false d1.at_ ⟨#[102,97,108,115,101]⟩ (show(dO.good (tk.w::r)).head (⟨#[102,97,108,115,101]⟩:ByteArray).data.toList=false from H2.out)).mono ?_;rintro e w2 ⟨rfl,d2⟩;go_wp2_with fail;refine(gY ρ _ _ false d2.at_ ⟨#[110,117,108,108]⟩ (show(dO.good (tk.w::r)).head (⟨#[110,117,108,108]⟩:ByteArray).data.toList=false from H3.out)).mono ?_;rintro e w3 ⟨rfl,d3⟩;go_wp2_with fail;refine(gY ρ _ _ false d3.at_ ⟨#[40]⟩ (show(dO.good (tk.w::r)).head (⟨#[40]⟩:ByteArray).data.toList=false from H4.out)).mono ?_;rintro e w4 ⟨rfl,d4⟩;go_wp2_with fail;refine(Ln HK1.out kI.out ρ _ d4.at_).mono ?_;rintro e w5 ⟨n,hn,rfl,d5⟩;have HN:=hid hn;clear hn;go_wp2_with fail;have hwd:=xi ρ _ _ false d5.at_ ⟨#[40]⟩;rw[show(dO.good r).head (⟨#[40]⟩:ByteArray).data.toList=false from HO.out] at hwd;refine hwd.mono ?_;rintro e w6 ⟨rfl,b6⟩;have dd:=(((((HD.out.trans d1).trans d2).trans d3).trans d4).trans d5).later b6;have Cs:=(d5.blk (d4.blk (d3.blk (d2.blk (d1.blk lL.out Taa) Taa) Taa) Taa) Taa).later b6;have hs6:w.heap.size+2<=w6.heap.size:=by have:=d1.size;have:=d2.size;have:=d3.size;have:=d4.size;have:=d5.size;have:=b6.size;omega
 have Jz:=hid dd;have HQQ:=hid Cs;clear dd Cs d1 d2 d3 d4 d5 b6 hwd HF HD lL HTB u0 u1 u2 u3 x1 x2 OZ hb3;have XQ:=HQQ.out;have hqs:=XQ.lt;obtain⟨z0,z1,z2,z3,z4,z5,z6⟩:=gI XQ;obtain⟨y0,y1,y2,y3,y4,y5,y6⟩:=cf XQ;clear XQ;go_wp2_with fail;have HP:=gJ HQQ.out ⟨2,rJ,n,0,none,0,0⟩;have HR:=dV HP;unfold fZ rJ at HR;obtain⟨r0,r1,r2,r3,r4,r5,r6⟩:=HR;refine bodyPost_ret (v:=dA ⟨2,rJ,n,0,none,0,0⟩) Zg9 rfl ?_
 ·rw[<- HN.out];exact Nd.put (t:=ui n) aZ (Nat.le_refl _) Jz.out (RO _ _ _)):p:=h
theorem Ua(MD:Zz t)(yu:t.k=1)(Zw:jT t.s=false)(ho:ar bp r=false):Ll (t::r) (ui ⟨t.s.toArray⟩) r:=by intro ρ w h;have HK1:=hid yu;have kI:=hid Zw;clear yu Zw;have HO:=hid ho;clear ho;have HNM:=hid MD;have aev:=hid MD.p;have H1:=hid MD.wt;have H2:=hid MD.wf;have H3:=hid MD.wn;have H4:=hid MD.wo;clear MD;open za5 in exact Zal
theorem zcq.Kaw(h:p:=by
 unfold uT at*;go_enter Tryz.func163,Tryz.ntmps163;go_wp2_with (first
  |(go_at_call 77;refine hm.mono ?_;rintro e w1 ⟨rfl,d1⟩)
  |(go_at_call 163;refine(H ρ w1 d1.at_).mono ?_;rintro e w2 ⟨y,rfl,ht,d2⟩;unfold dA aL;have D:=(gP.aA h hb).trans (d1.trans d2);have jw:=d2.blk (d1.blk HQ.out Taa) Taa;have hqs:=d2.size;have aeo:=d1.size;have lL:=jw.alloc (.cells #[.int .u8 y.op,.int .u8 y.v.k,.int .i64 y.v.n,.string y.v.s,.string y.name,.int .i64 y.width,.slice y.A y.n y.c] 36);obtain⟨z0,z1,z2,z3,z4,z5,z6⟩:=gI lL;obtain⟨y0,y1,y2,y3,y4,y5,y6⟩:=cf lL))
 have HP:=gJ lL (rK 4 w2.heap.size 1);have HR:=dV HP;unfold fZ rK rJ at HR;obtain⟨r0,r1,r2,r3,r4,r5,r6⟩:=HR;refine bodyPost_ret (v:=dA (rK 4 w2.heap.size 1)) Zb8 rfl ?_
 ·exact Nd.put aZ (Nat.le_refl _) (D.later (aa w2 _)) (wJ 4 (av.new w2 36 (aL y).toArray) ⟨by omega,by simp⟩ ((ht.later (aa w2 _)).more Taa))):p:=h
theorem aew{l:aF} {u:Wd} {t:Tr}(hn:fW dT u=true)(H:fk 2 l t r):fk 2 (u::l) (mB 4 [t]) r:=by intro ρ w h;have aZ:=h.mE;have hb:=aa w uT;have h0:=h.later hb;have hm:=vN ρ _ (.good (u::l)) false h0 ⟨#[110,111,116]⟩ hn;open zcq in exact ZaO
end Go.Proofs.YtehhdlgjfdnafaaGreatDoor
