/- Parts of the proof. -/
import Derived.Test.YtfmbcoeallmnnaaGreatDoorD13
namespace Go.Proofs.YtfmbcoeallmnnaaGreatDoor
open Go.Lib (hid)
open Go.ChangeShapes Go.WideShapes Go.ChangeAt Go.RowKit
set_option linter.unusedVariables false
set_option linter.unusedSimpArgs false
set_option maxRecDepth 100000
theorem jc {p B:Nat} {a b:World}(h:a.grownBy b (some p))(hB:B≤a.heap.size)(hp:B≤p):Below B a b:=
 ⟨h.os,h.tape,h.output,h.size,fun k hk=>h.block k (by omega) (by intro e;injection e with e;omega)⟩
def Yy (f:FuncId):Value:=.func (.func f) #[] #[]
set_option maxHeartbeats 1000000
theorem Ke (k:Int)(hk: -9223372036854775808≤k∧k≤9223372036854775807)(w:World)(hE:fQ w)(g1 g2:Nat)(l1:g1 < w.heap.size)(l2:g2 < w.heap.size)(f1:w.cell? ⟨g1,0,none⟩=some (Yy 61))(f2:w.cell? ⟨g2,0,none⟩=some (Yy 62)):
  Calls Tryz.prog 65 #[.int .i64 k,.pointer (some ⟨g1,0,none⟩),.pointer (some ⟨g2,0,none⟩)] w (ej (bT (ey k) (jW k)) w):=by
 unfold ej;obtain⟨z,hz⟩:∃z,z=bT (ey k) (jW k):=⟨_,rfl⟩;have vu:=hid hz;rw[← hz];clear hz;have hZ:=ag.new w 30 #[.int .i64 0,.int .i64 0];have hB:=aa w (.cells #[.int .i64 0,.int .i64 0] 30);have E:=hE.later hB;have c1:=(hB.cell (p:=⟨g1,0,none⟩) l1).trans f1;have c2:=(hB.cell (p:=⟨g2,0,none⟩) l2).trans f2;have m1:=Nat.lt_of_lt_of_le l1 hB.size;have m2:=Nat.lt_of_lt_of_le l2 hB.size;clear f1 f2 l1 l2;unfold Yy at c1 c2;go_enter Tryz.func65,Tryz.ntmps65;go_upto_region 1 with fail
 generalize w.alloc (.cells #[.int .i64 0,.int .i64 0] 30)=W at*;have kJ:w.heap.size≤w.heap.size:=Nat.le_refl _;have q1:=fun q:Ext W.heap.size W=>(q.h.cell (p:=⟨g1,0,none⟩) m1).trans c1
 have q2:=fun q:Ext W.heap.size W=>(q.h.cell (p:=⟨g2,0,none⟩) m2).trans c2
 have n1:=fun q:Ext W.heap.size W=>zR k hk q.w (E.later q.h)
 have n2:=fun q:Ext W.heap.size W=>Df k hk q.w (E.later q.h)
 have n3:∀q:Ext W.heap.size W,Calls Tryz.prog 12 #[cC (ey k),cC (jW k)] q.w (fun e w'=>e=.returned (cC z)∧Below q.w.heap.size q.w w'):=fun q=>by rw[vu.out];exact jI _ _ _
 unfold ej at n1 n2;clear vu;clear c1 c2;refine bD 7 W.heap.size W (Below.refl _ _) (by kernel_rfl) (by kernel_rfl) (by kernel_rfl) (by kernel_rfl) ?_;simp only[List.append,List.take_succ_cons,List.take_zero,List.drop_succ_cons,List.drop_zero];repeat (go_big_quiet_step (first
  |(go_at_call 61;exact aT (Nat.le_refl _) (n1 _))
  |(go_at_call 62;exact aT (Nat.le_refl _) (n2 _))
  |(go_at_call 12;exact aT (Nat.le_refl _) (n3 _))))
 refine wpQuiet_nil ?_;rintro V4 ⟨x9,hx9⟩;have F7:=x9.h;rw[← hx9] at F7;clear hx9 x9 q1 q2 n1 n2 n3;replace hB:=ae.then hB F7
 replace hZ:=hZ.later F7;clear F7;unfold cC;have bK:=ar hZ;have dn:=ag.frozen hZ;clear hZ;go_wp2_with fail;exact bodyPost_ret (v:=cC z) (by simp[results,Tryz.results65,go_sem,bK,cC,br]) rfl ⟨rfl,(hB.setCell (kJ) _).setCell (kJ) _⟩
def qG (g1 g2:Nat):List (Int×Value):=[(12,.func (.func 63) #[] #[]),(14,.func (.func 64) #[] #[]),(15,.func (.func 61) #[] #[]),(13,.func (.func 62) #[] #[]),(10,.func (.func 65) #[] #[.pointer (some ⟨g1,0,none⟩),.pointer (some ⟨g2,0,none⟩)])]
def MV (w:World)(e:Ending)(w':World):Prop:=∃g g1 g2,e=.returned (.map (some g))∧ra w' g (qG g1 g2)∧g1 < w'.heap.size∧g2 < w'.heap.size∧w'.cell? ⟨g1,0,none⟩=some (Yy 61)∧w'.cell? ⟨g2,0,none⟩=some (Yy 62)∧Below w.heap.size w w'
theorem jY (w:World):Calls Tryz.prog 37 #[] w (MV w):=by
 have XV:∀(fn:Fn) (first cap:Array Value) (w:World),(Instr.makeFunc fn first cap).run Tryz.prog w=.ok (.func fn first cap) w:=fun _ _ _ _=>rfl
 have h1:=(ag.new w 67 #[.func (.func 61) #[] #[]]).later (aa _ (.cells #[.func (.func 62) #[] #[]] 67));have h2:=ag.new (w.alloc (.cells #[.func (.func 61) #[] #[]] 67)) 67 #[.func (.func 62) #[] #[]];have hB:=ae.then (aa w (.cells #[.func (.func 61) #[] #[]] 67)) (aa _ (.cells #[.func (.func 62) #[] #[]] 67))
 rw[World.size_alloc] at h2;go_enter Tryz.func37,Tryz.ntmps37;go_upto_region 3 with fail
 generalize World.alloc (World.alloc w _) _=W at*;have l1:=h1.lt;have l2:=h2.lt;have n1:some w.heap.size≠some W.heap.size:=fun e=>by injection e with e;omega
 have n2:some (w.heap.size+1)≠some W.heap.size:=fun e=>by injection e with e;omega
 have hw:w.heap.size≤W.heap.size:=hB.size;have hM:=ra.new W;have hBm:=aa W (.map #[] 0);replace h1:=h1.later hBm;replace h2:=h2.later hBm;replace hB:=ae.then hB hBm
 clear hBm l1 l2;refine wp_region_lit ?_;refine qF rfl 68 rfl ?_;generalize W.heap.size=gm at*;generalize W.alloc _=W0 at*;have c1:=h1.cell 0;have c2:=h2.cell 0;simp only[List.getElem?_toArray,List.getElem?_cons_zero] at c1 c2;go_wp2_with (first
  |(refine iZ Tryz.underlying68 Tryz.underlying5 rfl _ _ _ rfl gm rfl _ rfl _ rfl hM (by rfl) ?_
    clear hM c1 c2
    intro wm hM hgr
    replace h1:=h1.grown hgr n1
    replace h2:=h2.grown hgr n2
    replace hB:=hB.trans (jc hgr hB.size hw)
    clear hgr
    have c1:=h1.cell 0
    have c2:=h2.cell 0
    simp only[List.getElem?_toArray,List.getElem?_cons_zero] at c1 c2))
 go_ret;exact⟨gm,w.heap.size,w.heap.size+1,rfl,hM,h1.lt,h2.lt,c1,c2,hB⟩
def wZ (u:Nat→Value)(ch:List Nat)(vs:List Value)(i:Nat)(_:World)(v:Value):Prop:=
 match ch.idxOf? i with
 | some k=>vs[k]?=some v
 | none=>v=u i
def fJ (l:List Oper):List Nat→Bool
 | a::b::r=>(match l[b]? with | some o=>eK o a | none=>false)&& fJ l (b::r)
 | _=>true
def sG (P:Program)(l:List Oper)(u:Nat→Value)(ch:List Nat)(G:List Value→World→Prop)(a0:Act)(i:Nat)(o:Oper):Prop:=
 ∀ρ w vs,fk ρ→G vs w→cL l (wZ u ch vs) a0.eval ρ w o (tmpsOf o)→o.guard=none∧
  match ch.idxOf? i with
  | none=>(execOp ρ o).run P w=.ok (.value (u i)) w
  | some k=>vs.length=k→nw P o ρ w fun v w'=>G (vs++ [v]) w'
def rb (P:Program)(l:List Oper)(u:Nat→Value)(ch:List Nat)(G:List Value→World→Prop)(a0:Act):List Oper→Nat→Prop
 | [],_=>True
 | o::rest,i=>sG P l u ch G a0 i o∧rb P l u ch G a0 rest (i+1)
theorem mP {P:Program} {L:List Oper} {u:Nat→Value} {ch:List Nat} {G:List Value→World→Prop} {a0:Act}:∀ {l:List Oper} {k:Nat},rb P L u ch G a0 l k→∀i o,l[i]?=some o→sG P L u ch G a0 (k+i) o
 | [],_,_,i,o,h=>by simp at h
 | x::l,k,hs,0,o,h=>by simp at h;subst h;exact hs.1
 | x::l,k,hs,i+1,o,h=>by have:=mP hs.2 i o (by simpa using h);rwa [show k+1+i=k+(i+1) by omega] at this
theorem oU {ch:List Nat} {i k:Nat}(h:ch.idxOf? i=some k):ch[k]?=some i:=by rw[List.idxOf?,List.findIdx?_eq_some_iff_getElem] at h;obtain⟨hk,h1,_⟩:=h;rw[List.getElem?_eq_getElem hk];simpa using h1
theorem oV {ch:List Nat} {i:Nat}(h:ch.idxOf? i=none):i∉ch:=by intro hm;rw[List.idxOf?,List.findIdx?_eq_none_iff] at h;have:=h i hm;simp at this
theorem FO {ch:List Nat}(hn:ch.Nodup) {i k:Nat}(h:ch[k]?=some i):ch.idxOf? i=some k:=by
 obtain⟨hk,he⟩:=List.getElem?_eq_some_iff.1 h;cases hc:ch.idxOf? i with
 | none=>exact absurd (List.mem_of_getElem? h) (oV hc)
 | some k'=>have h2:=oU hc;obtain⟨CC,M6⟩:=List.getElem?_eq_some_iff.1 h2;congr 1;exact(List.getElem_inj hn).1 (M6.trans he.symm)
theorem mQ {l:List Oper}:∀ {ch:List Nat} {k a b:Nat},fJ l ch=true→ch[k]?=some a→ch[k+1]?=some b→∃o,l[b]?=some o∧eK o a=true
 | [],_,_,_,_,h,_=>by simp at h
 | [x],0,_,_,_,_,h=>by simp at h
 | [x],_+1,_,_,_,h,_=>by simp at h
 | x::y::r,0,a,b,hc,h1,h2=>by
   simp at h1 h2;subst h1 h2;simp only[fJ,Bool.and_eq_true] at hc;have:=hc.1;split at this
   ·rename_i o ho;exact⟨o,ho,this⟩
   ·cases this
 | x::y::r,k+1,a,b,hc,h1,h2=>by simp only[fJ,Bool.and_eq_true] at hc;exact mQ hc.2 (by simpa using h1) (by simpa using h2)
theorem Inv.imp {l:List Oper} {V V':Nat→World→Value→Prop} {R:World→World→Prop} {a0:Act} {w0:World} {m:Nat} {listed:Array Bool} {a:Act} {w:World}(I:Inv l V R a0 w0 m listed a w)(h:∀i w v,V i w v→V' i w v):Inv l V' R a0 w0 m listed a w:=
 ⟨I.r,I.defers,I.size,I.old,fun i o d h1 h2 h3=>h _ _ _ (I.new i o d h1 h2 h3),I.closed,I.len,I.tail⟩
theorem xd {u:Nat→Value} {ch:List Nat} {vs:List Value}(v:Value)(i:Nat)(w:World)(x:Value)(h:wZ u ch vs i w x):wZ u ch (vs++ [v]) i w x:=by
 unfold wZ at*;cases hk:ch.idxOf? i with
 | some k=>rw[hk] at h;simp only at h ⊢;obtain⟨hlt,_⟩:=List.getElem?_eq_some_iff.1 h;rw[List.getElem?_append_left hlt];exact h
 | none=>rw[hk] at h;exact h
section
variable {P:Program} {l zs:List Oper} {Q:Exit→Act→World→Prop} {u:Nat→Value} {ch:List Nat} {G:List Value→World→Prop} {a0:Act} {w0:World}
theorem mR {N:Nat}(vs:List Value)(aZ:bX l N l 0=true)(hz:cH (l++zs) zs l.length=true) {listed:Array Bool} {a:Act} {w:World}(hf:cN (wZ u ch vs) (fun a w=>wpList P (l++zs).toArray Q zs a w) l 0 a0 w)(I:Inv l (wZ u ch vs) (fun _ _=>True) a0 w0 (l++zs).length listed a w)
  (h0:aG l.length listed=0):wpAny P .any (l++zs).toArray Q zs.length listed a w:=by
 have hall:=cq h0;have ha:a=fill (fun d=>a.eval (.tmp d)) l a0:=by
  have h1:a.tmps=(fill (fun d=>a.eval (.tmp d)) l a0).tmps:=by
   apply Array.ext_getElem?;intro t;by_cases ht:t < a0.tmps.size
   ·rw[iT _ _ _ _ ht];split
    ·simp[Act.eval,I.size,ht]
    ·rename_i hno;refine I.old t ?_;intro i o hi hd _;exact hno ⟨o,List.mem_of_getElem? hi,hd⟩
   ·rw[Array.getElem?_eq_none (by rw[I.size];omega),Array.getElem?_eq_none (by rw[gL];omega)]
  have h2:a.defers=(fill (fun d=>a.eval (.tmp d)) l a0).defers:=by rw[eC,I.defers]
  exact ny h1 h2
 have hK:=kX (V:=wZ u ch vs) (fun d=>a.eval (.tmp d)) l 0 a0 (fun i o d hi hd=>by
  rw[Nat.zero_add]
  have qz:i < l.length:=by
   rcases Nat.lt_or_ge i l.length with h' | h'
   ·exact h'
   ·rw[List.getElem?_eq_none h'] at hi;cases hi
  exact I.new i o d hi (hall i qz) hd) hf
 rw[← ha] at hK;refine iV aZ hz 0 zs rfl listed a w I.len ?_ hK;intro i hi;constructor
 ·intro hl;rcases Nat.lt_or_ge i l.length with h' | h'
  ·omega
  ·rw[I.tail i h'] at hl;cases hl
 ·intro hl;exact hall i (by omega)
theorem kK {id:Nat} {ops:List Oper}(zs:List Oper)(l:List Oper)(ow:ops=l++zs)(u:Nat→Value)(ch:List Nat)(G:List Value→World→Prop)(iW:∀vs w,G vs w→G vs w.drew)(hG:G [] w0)
  (hm:P.follows .mixedOrders=true) (aZ:bX l a0.tmps.size l 0=true) (hz:cH (l++zs) zs l.length=true) (hch:fJ l ch=true) (MW:ch.Nodup) (og:ch.all (fun i=>decide (i < l.length))=true)
  (hs:rb P l u ch G a0 l 0) (hf:∀vs w,vs.length=ch.length→G vs w→cN (wZ u ch vs) (fun a w=>wpList P ops.toArray Q zs a w) l 0 a0 w):(Code.region id ops.toArray true).wp P Q a0 w0:=by
 subst ow;have main:∀(fuel:Nat) (listed:Array Bool) (a:Act) (w:World) (vs:List Value),Inv l (wZ u ch vs) (fun _ _=>True) a0 w0 (l++zs).length listed a w→G vs w→(∀k i,ch[k]?=some i→(listed.getD i false=true↔k < vs.length))→vs.length≤ch.length→fuel=aG l.length listed+zs.length→wpAny P .any (l++zs).toArray Q fuel listed a w:=by
  intro fuel;induction fuel with
  | zero=>
    intro listed a w vs I hg dT Yz Mj;have h0:aG l.length listed=0:=by omega
    have hz0:zs.length=0:=by omega
    have hall:=cq h0;have JL:vs.length=ch.length:=by
     rcases Nat.lt_or_ge vs.length ch.length with h' | h'
     ·have hi:=List.getElem?_eq_getElem h';have hb:=of_decide_eq_true (List.all_eq_true.1 og _ (List.getElem_mem h'));have:=(dT _ _ hi).1 (hall _ hb);omega
     ·omega
    have:=mR vs aZ hz (hf vs w JL hg) I h0;rwa [hz0] at this
  | succ fuel ih=>
    intro listed a w vs I hg dT Yz Mj;by_cases h0:aG l.length listed=0
    ·have hall:=cq h0;have JL:vs.length=ch.length:=by
      rcases Nat.lt_or_ge vs.length ch.length with h' | h'
      ·have hi:=List.getElem?_eq_getElem h';have hb:=of_decide_eq_true (List.all_eq_true.1 og _ (List.getElem_mem h'));have:=(dT _ _ hi).1 (hall _ hb);omega
      ·omega
     have:=mR vs aZ hz (hf vs w JL hg) I h0;rwa [show zs.length=fuel+1 by omega] at this
    ·obtain⟨i0,qj,Jw⟩:=fp h0;obtain⟨i,⟨hi,hu⟩,wj⟩:=least (p:=fun i=>i < l.length∧listed.getD i false=false) i0 ⟨qj,Jw⟩;have jT:∀j,j < i→listed.getD j false=true:=fun j hj=>by
      cases hc:listed.getD j false with
      | true=>rfl
      | false=>exact absurd ⟨by omega,hc⟩ (wj j hj)
     have vI:l[i]?=some l[i]:=List.getElem?_eq_getElem hi;have kY:=aR aZ i _ vI;simp only[ew,Bool.and_eq_true,Nat.zero_add] at kY;have ee:i∈Region.ready .any (l++zs).toArray listed:=by
      refine iU (fW vI) ?_ fun j hj=>jT j (of_decide_eq_true (List.all_eq_true.1 kY.1.1.1 j hj))
      rw[cm (by rw[I.len];simp;omega)];exact hu
     refine⟨(fun hnil=>by rw[hnil] at ee;cases ee),fun j hj=>?_⟩;obtain⟨oH,oj,ig,hall⟩:=mem_ready.1 hj;have uH:j <(l++zs).length:=by
      rcases Nat.lt_or_ge j (l++zs).length with h' | h'
      ·exact h'
      ·rw[Array.getElem?_eq_none (by simpa using h')] at ig;cases ig
     rw[cm (by rw[I.len];exact uH)] at oH;have cZ:∀k∈cj oj,listed.getD k false=true:=fun k hk=>by obtain⟨e,he,hb,rfl⟩:=dY.1 hk;exact hall e he hb
     have AV:j < l.length:=by
      rcases Nat.lt_or_ge j l.length with h' | h'
      ·exact h'
      ·exfalso;have Fo:zs[j - l.length]?=some oj:=by
        have:(l++zs)[j]?=some oj:=by simpa using ig
        rw[List.getElem?_append_right (by omega)] at this;exact this
       have wh:=dE hz (j - l.length) oj Fo;rw[show l.length+(j - l.length)=j by omega] at wh;have hc:=dJ (L:=l++zs) (fun k=>listed.getD k false=true) (by
        intro k ok hk hd e he
        rcases Nat.lt_or_ge k l.length with wk | wk
        ·rw[List.getElem?_append_left wk] at hk
         exact I.closed k ok hk hd e he
        ·rw[I.tail k wk] at hd;cases hd) j (cj oj) wh.2 cZ i (by omega)
       rw[hu] at hc;cases hc
     have pH:l[j]?=some oj:=by
      have:(l++zs)[j]?=some oj:=by simpa using ig
      rw[List.getElem?_append_left AV] at this;exact this
     have hst:=mP hs j oj pH;rw[Nat.zero_add] at hst;have Hz:=Inv.reads aZ I pH oH cZ (tmpsOf oj) (fun _ h=>h);obtain⟨hgd,hstep⟩:=hst a.eval w vs (fU a) hg Hz;have MX:j < listed.size:=by rw[I.len];exact uH
     have Di:fuel=aG l.length (listed.setIfInBounds j true)+zs.length:=by have:=fo l.length listed j MX AV oH;omega
     unfold wpOp;rw[ig];show if Region.wanted oj (yielded (l++zs).toArray a.tmps)=true then _ else _
     rw[if_pos (by simp[Region.wanted,hgd])];refine .inl ?_;cases za:ch.idxOf? j with
     | none=>
       simp only[za] at hstep;refine eA (T:=fun v w'=>v=u j∧w'=w) (ai hstep ⟨rfl,rfl⟩) ?_;rintro v w' ⟨rfl,rfl⟩;refine ih _ _ _ vs (I.step aZ (fun _ _ _ _ h _=>h) (fun _ _ _ _ _=>trivial) pH uH oH cZ trivial ?_) hg ?_ Yz Di
       ·unfold wZ;simp only[za]
       ·intro k i' hk;have hne:i'≠j:=fun e=>oV za (e▸List.mem_of_getElem? hk)
        rw[cd _ _ _ MX,if_neg hne];exact dT k i' hk
     | some k=>
       simp only[za] at hstep;have FP:=oU za;have SS:vs.length=k:=by
        have h1:¬k < vs.length:=fun h=>by have:=(dT k j FP).2 h;rw[oH] at this;cases this
        match k,FP,h1 with
        | 0,_,h1=>omega
        | k+1,FP,h1=>
          obtain⟨Fp,_⟩:=List.getElem?_eq_some_iff.1 FP;have hp:ch[k]?=some ch[k]:=List.getElem?_eq_getElem (by omega);obtain⟨o',pI,he⟩:=mQ hch hp FP;rw[pH] at pI;injection pI with pI;subst pI
          have:=(dT k _ hp).1 (cZ _ (cY.1 he));omega
       refine eA (hstep SS) ?_;intro v w' Fs;have I':=(I.imp (fun i w x h=>xd (ch:=ch) (u:=u) v i w x h));refine ih _ _ _ (vs++ [v]) (I'.step aZ (fun _ _ _ _ h _=>h) (fun _ _ _ _ _=>trivial) pH uH oH cZ trivial ?_) Fs ?_ ?_ Di
       ·unfold wZ;simp only[za];rw[← SS];simp
       ·intro k' i' CC;rw[cd _ _ _ MX,List.length_append,List.length_singleton];by_cases Mk:i'=j
        ·subst Mk;have:=FO MW CC;rw[za] at this;injection this with this;simp only[if_true,true_iff];omega
        ·rw[if_neg Mk,dT k' i' CC];have hne:k'≠k:=fun e=>Mk (by rw[e,FP] at CC;injection CC with CC;exact CC.symm)
         omega
       ·obtain⟨Fp,_⟩:=List.getElem?_eq_some_iff.1 FP;simp;omega
 refine wp_region_any hm ?_;have:=main (l++zs).toArray.size (Array.replicate (l++zs).toArray.size false) a0 w0.drew [] ⟨trivial,rfl,rfl,fun _ _=>rfl,(fun i o d _ h=>by rw[aD] at h;cases h),(fun i o _ h=>by rw[aD] at h;cases h),by simp,fun i _=>aD _ _⟩ (iW _ _ hG) (fun k i _=>by rw[aD];simp) (by simp) (by
  have:aG l.length (Array.replicate (l++zs).toArray.size false)=l.length:=by
   unfold aG
   rw[List.filter_eq_self.2 (fun i _=>by rw[aD];rfl),List.length_range]
  rw[this];simp)
 exact this
end
def vv (u:Nat→Value)(M:List Nat)(σ:Nat→Option Value)(i:Nat)(_:World)(v:Value):Prop:=if i∈M then σ i=some v else v=u i
def Dj (σ:Nat→Option Value)(i:Nat)(v:Value):Nat→Option Value:=fun j=>if j=i then some v else σ j
theorem ju (σ:Nat→Option Value)(i:Nat)(v:Value):Dj σ i v i=some v:=by simp[Dj]
theorem dx (σ:Nat→Option Value) {i j:Nat}(v:Value)(h:j≠i):Dj σ i v j=σ j:=by simp[Dj,h]
def MZ (P:Program)(l:List Oper)(u:Nat→Value)(M:List Nat)(G:(Nat→Option Value)→World→Prop)(a0:Act)(i:Nat)(o:Oper):Prop:=
 ∀ρ w σ,fk ρ→G σ w→cL l (vv u M σ) a0.eval ρ w o (tmpsOf o)→(∀e∈cj o,e∈M→(σ e).isSome=true)→(i∈M→σ i=none)→o.guard=none∧
  if i∈M then nw P o ρ w fun v w'=>G (Dj σ i v) w' else(execOp ρ o).run P w=.ok (.value (u i)) w
def Bl (P:Program)(l:List Oper)(u:Nat→Value)(M:List Nat)(G:(Nat→Option Value)→World→Prop)(a0:Act):List Oper→Nat→Prop
 | [],_=>True
 | o::rest,i=>MZ P l u M G a0 i o∧Bl P l u M G a0 rest (i+1)
theorem zS {P:Program} {L:List Oper} {u:Nat→Value} {M:List Nat} {G:(Nat→Option Value)→World→Prop} {a0:Act}:∀ {l:List Oper} {k:Nat},Bl P L u M G a0 l k→∀i o,l[i]?=some o→MZ P L u M G a0 (k+i) o
 | [],_,_,i,o,h=>by simp at h
 | x::l,k,hs,0,o,h=>by simp at h;subst h;exact hs.1
 | x::l,k,hs,i+1,o,h=>by have:=zS hs.2 i o (by simpa using h);rwa [show k+1+i=k+(i+1) by omega] at this
section
variable {P:Program} {l zs:List Oper} {Q:Exit→Act→World→Prop} {u:Nat→Value} {M:List Nat} {G:(Nat→Option Value)→World→Prop} {a0:Act} {w0:World} {V:Nat→World→Value→Prop}
theorem zT {N:Nat}(aZ:bX l N l 0=true)(hz:cH (l++zs) zs l.length=true) {listed:Array Bool} {a:Act} {w:World}(hf:cN V (fun a w=>wpList P (l++zs).toArray Q zs a w) l 0 a0 w)(I:Inv l V (fun _ _=>True) a0 w0 (l++zs).length listed a w)
  (h0:aG l.length listed=0):wpAny P .any (l++zs).toArray Q zs.length listed a w:=by
 have hall:=cq h0;have ha:a=fill (fun d=>a.eval (.tmp d)) l a0:=by
  have h1:a.tmps=(fill (fun d=>a.eval (.tmp d)) l a0).tmps:=by
   apply Array.ext_getElem?;intro t;by_cases ht:t < a0.tmps.size
   ·rw[iT _ _ _ _ ht];split
    ·simp[Act.eval,I.size,ht]
    ·rename_i hno;refine I.old t ?_;intro i o hi hd _;exact hno ⟨o,List.mem_of_getElem? hi,hd⟩
   ·rw[Array.getElem?_eq_none (by rw[I.size];omega),Array.getElem?_eq_none (by rw[gL];omega)]
  have h2:a.defers=(fill (fun d=>a.eval (.tmp d)) l a0).defers:=by rw[eC,I.defers]
  exact ny h1 h2
 have hK:=kX (V:=V) (fun d=>a.eval (.tmp d)) l 0 a0 (fun i o d hi hd=>by
  rw[Nat.zero_add]
  have qz:i < l.length:=by
   rcases Nat.lt_or_ge i l.length with h' | h'
   ·exact h'
   ·rw[List.getElem?_eq_none h'] at hi;cases hi
  exact I.new i o d hi (hall i qz) hd) hf
 rw[← ha] at hK;refine iV aZ hz 0 zs rfl listed a w I.len ?_ hK;intro i hi;constructor
 ·intro hl;rcases Nat.lt_or_ge i l.length with h' | h'
  ·omega
  ·rw[I.tail i h'] at hl;cases hl
 ·intro hl;exact hall i (by omega)
theorem Dk {id:Nat} {ops:List Oper}(zs:List Oper)(l:List Oper)(ow:ops=l++zs)(u:Nat→Value)(M:List Nat)(G:(Nat→Option Value)→World→Prop)(iW:∀σ w,G σ w→G σ w.drew)(hG:G (fun _=>none) w0)
  (hm:P.follows .mixedOrders=true) (aZ:bX l a0.tmps.size l 0=true) (hz:cH (l++zs) zs l.length=true) (og:M.all (fun i=>decide (i < l.length))=true)
  (hs:Bl P l u M G a0 l 0) (hf:∀σ w,(∀i∈M,(σ i).isSome=true)→G σ w→cN (vv u M σ) (fun a w=>wpList P ops.toArray Q zs a w) l 0 a0 w):(Code.region id ops.toArray true).wp P Q a0 w0:=by
 subst ow;have main:∀(fuel:Nat) (listed:Array Bool) (a:Act) (w:World) (σ:Nat→Option Value),Inv l (vv u M σ) (fun _ _=>True) a0 w0 (l++zs).length listed a w→G σ w→(∀i∈M,(listed.getD i false=true↔(σ i).isSome=true))→fuel=aG l.length listed+zs.length→wpAny P .any (l++zs).toArray Q fuel listed a w:=by
  intro fuel;induction fuel with
  | zero=>
    intro listed a w σ I hg dT Mj;have h0:aG l.length listed=0:=by omega
    have hz0:zs.length=0:=by omega
    have hall:=cq h0;have:=zT aZ hz (hf σ w (fun i hi=>(dT i hi).1 (hall i (of_decide_eq_true (List.all_eq_true.1 og i hi)))) hg) I h0;rwa [hz0] at this
  | succ fuel ih=>
    intro listed a w σ I hg dT Mj;by_cases h0:aG l.length listed=0
    ·have hall:=cq h0;have:=zT aZ hz (hf σ w (fun i hi=>(dT i hi).1 (hall i (of_decide_eq_true (List.all_eq_true.1 og i hi)))) hg) I h0;rwa [show zs.length=fuel+1 by omega] at this
    ·obtain⟨i0,qj,Jw⟩:=fp h0;obtain⟨i,⟨hi,hu⟩,wj⟩:=least (p:=fun i=>i < l.length∧listed.getD i false=false) i0 ⟨qj,Jw⟩;have jT:∀j,j < i→listed.getD j false=true:=fun j hj=>by
      cases hc:listed.getD j false with
      | true=>rfl
      | false=>exact absurd ⟨by omega,hc⟩ (wj j hj)
     have vI:l[i]?=some l[i]:=List.getElem?_eq_getElem hi;have kY:=aR aZ i _ vI;simp only[ew,Bool.and_eq_true,Nat.zero_add] at kY;have ee:i∈Region.ready .any (l++zs).toArray listed:=by
      refine iU (fW vI) ?_ fun j hj=>jT j (of_decide_eq_true (List.all_eq_true.1 kY.1.1.1 j hj))
      rw[cm (by rw[I.len];simp;omega)];exact hu
     refine⟨(fun hnil=>by rw[hnil] at ee;cases ee),fun j hj=>?_⟩;obtain⟨oH,oj,ig,hall⟩:=mem_ready.1 hj;have uH:j <(l++zs).length:=by
      rcases Nat.lt_or_ge j (l++zs).length with h' | h'
      ·exact h'
      ·rw[Array.getElem?_eq_none (by simpa using h')] at ig;cases ig
     rw[cm (by rw[I.len];exact uH)] at oH;have cZ:∀k∈cj oj,listed.getD k false=true:=fun k hk=>by obtain⟨e,he,hb,rfl⟩:=dY.1 hk;exact hall e he hb
     have AV:j < l.length:=by
      rcases Nat.lt_or_ge j l.length with h' | h'
      ·exact h'
      ·exfalso;have Fo:zs[j - l.length]?=some oj:=by
        have:(l++zs)[j]?=some oj:=by simpa using ig
        rw[List.getElem?_append_right (by omega)] at this;exact this
       have wh:=dE hz (j - l.length) oj Fo;rw[show l.length+(j - l.length)=j by omega] at wh;have hc:=dJ (L:=l++zs) (fun k=>listed.getD k false=true) (by
        intro k ok hk hd e he
        rcases Nat.lt_or_ge k l.length with wk | wk
        ·rw[List.getElem?_append_left wk] at hk
         exact I.closed k ok hk hd e he
        ·rw[I.tail k wk] at hd;cases hd) j (cj oj) wh.2 cZ i (by omega)
       rw[hu] at hc;cases hc
     have pH:l[j]?=some oj:=by
      have:(l++zs)[j]?=some oj:=by simpa using ig
      rw[List.getElem?_append_left AV] at this;exact this
     have hst:=zS hs j oj pH;rw[Nat.zero_add] at hst;have Hz:=Inv.reads aZ I pH oH cZ (tmpsOf oj) (fun _ h=>h);have hnone:j∈M→σ j=none:=fun UT=>by
      cases PZ:σ j with
      | none=>rfl
      | some v=>have:=(dT j UT).2 (by rw[PZ];rfl);rw[oH] at this;cases this
     obtain⟨hgd,hstep⟩:=hst a.eval w σ (fU a) hg Hz (fun e he hem=>(dT e hem).1 (cZ e he)) hnone;have MX:j < listed.size:=by rw[I.len];exact uH
     have Di:fuel=aG l.length (listed.setIfInBounds j true)+zs.length:=by have:=fo l.length listed j MX AV oH;omega
     unfold wpOp;rw[ig];show if Region.wanted oj (yielded (l++zs).toArray a.tmps)=true then _ else _
     rw[if_pos (by simp[Region.wanted,hgd])];refine .inl ?_;by_cases UT:j∈M
     ·rw[if_pos UT] at hstep;refine eA hstep ?_;intro v w' Fs;have hne:∀i,i≠j→Dj σ j v i=σ i:=fun i hi=>dx σ v hi
      have I':Inv l (vv u M (Dj σ j v)) (fun _ _=>True) a0 w0 (l++zs).length listed a w:=I.imp (fun i w x h=>by
       unfold vv at*
       by_cases AU:i∈M
       ·rw[if_pos AU] at h ⊢
        rw[hne i (fun e=>by subst e;rw[hnone AU] at h;cases h)]
        exact h
       ·rw[if_neg AU] at h ⊢;exact h)
      refine ih _ _ _ (Dj σ j v) (I'.step aZ (fun _ _ _ _ h _=>h) (fun _ _ _ _ _=>trivial) pH uH oH cZ trivial ?_) Fs ?_ Di
      ·unfold vv;rw[if_pos UT];exact ju σ j v
      ·intro k hk;rw[cd _ _ _ MX];by_cases hkj:k=j
       ·subst hkj;rw[ju];simp
       ·rw[if_neg hkj,hne k hkj];exact dT k hk
     ·rw[if_neg UT] at hstep;refine eA (T:=fun v w'=>v=u j∧w'=w) (ai hstep ⟨rfl,rfl⟩) ?_;rintro v w' ⟨rfl,rfl⟩;refine ih _ _ _ σ (I.step aZ (fun _ _ _ _ h _=>h) (fun _ _ _ _ _=>trivial) pH uH oH cZ trivial ?_) hg ?_ Di
      ·unfold vv;rw[if_neg UT]
      ·intro k hk;rw[cd _ _ _ MX,if_neg (fun e:k=j=>UT (by rw[← e];exact hk))];exact dT k hk
 refine wp_region_any hm ?_;have:=main (l++zs).toArray.size (Array.replicate (l++zs).toArray.size false) a0 w0.drew (fun _=>none) ⟨trivial,rfl,rfl,fun _ _=>rfl,(fun i o d _ h=>by rw[aD] at h;cases h),(fun i o _ h=>by rw[aD] at h;cases h),by simp,fun i _=>aD _ _⟩ (iW _ _ hG) (fun i _=>by rw[aD];simp) (by
  have:aG l.length (Array.replicate (l++zs).toArray.size false)=l.length:=by
   unfold aG
   rw[List.filter_eq_self.2 (fun i _=>by rw[aD];rfl),List.length_range]
  rw[this];simp)
 exact this
end
end Go.Proofs.YtfmbcoeallmnnaaGreatDoor
