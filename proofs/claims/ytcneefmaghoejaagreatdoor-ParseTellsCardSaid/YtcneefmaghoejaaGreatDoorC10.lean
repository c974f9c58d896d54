/- Parts of the proof. -/
import Derived.Test.YtcneefmaghoejaaGreatDoorC9
namespace Go.Proofs.YtcneefmaghoejaaGreatDoor
open Go.Lib (hid)
open Go.ChangeShapes Go.WideShapes Go.ChangeAt Go.RowKit
set_option linter.unusedVariables false
set_option linter.unusedSimpArgs false
def opC (x:List UInt8×Int):List Value:=[.string ⟨x.1.toArray⟩,.int .u8 x.2]
def opsV (ks:List (List UInt8×Int)):Array Value:=(ks.flatMap opC).toArray
theorem Aq {w:World} {b:Nat} {T:TypeId} {ks:List (List UInt8×Int)}(h:au w b T (opsV ks)) {i:Nat} {s:List UInt8} {o:Int}(hi:ks[i]?=some (s,o)):w.cell? ⟨b,i*2,none⟩=some (.string ⟨s.toArray⟩)∧w.cell? ⟨b,i*2+1,none⟩=some (.int .u8 o):=by
 have f:=tB (f:=opC) (size:=2) (fun _=>rfl) ks i (s,o) hi;constructor
 ·rw[h.cell];have:=f 0 _ rfl;simpa [opsV] using this
 ·rw[h.cell];have:=f 1 _ rfl;simpa [opsV] using this
set_option maxHeartbeats 4000000
set_option maxRecDepth 100000
theorem Kl (ρ:br)(w:World)(l:bH)(lg dp:Bool)(h:ρ.ij w l lg dp)(s:List UInt8)(o:Int)(pb:Nat)(hp:au w pb 58 #[ρ.ptr]):
  Calls Tryz.prog 135 #[.agg #[.string ⟨s.toArray⟩,.int .u8 o],.pointer (some ⟨pb,0,none⟩)] w fun e w'=>e=.returned (.bool (av s l))∧bJ ρ w w' (jv s l) lg dp:=by
 have hb:=aa w (.cells #[.string ⟨s.toArray⟩,.int .u8 o] 142);have hm:=bX ρ _ l lg dp (h.later hb) ⟨s.toArray⟩;rw[show(⟨s.toArray⟩:ByteArray).data.toList=s by simp] at hm;have HD:=hid (bJ.aL h hb);have c0:=hp.cell 0;simp only[List.getElem?_toArray,List.getElem?_cons_zero] at c0;have hpl:=hp.lt;clear h hb;go_enter Tryz.func135,Tryz.ntmps135;go_wp2_with fail;refine hm.mono ?_;clear hm;rintro e w1 ⟨rfl,d1⟩;go_wp2_with fail;go_ret;exact⟨rfl,HD.out.trans d1⟩
theorem Mw {s:List UInt8} {o:Int} {ks:List (List UInt8×Int)} {l:bH}(h:av s l=false):gT ((s,o)::ks) l=gT ks l:=by simp[gT,h]
theorem GX {s:List UInt8} {o:Int} {ks:List (List UInt8×Int)} {l:bH}(h:av s l=true):gT ((s,o)::ks) l=some o:=by simp[gT,h]
def F8 (ρ:br)(w:World)(ks:List (List UInt8×Int))(l:bH)(lg dp:Bool)(e:Ending)(w':World):Prop:=
 (gT ks l=none∧e=.returned (.int .i64 (-1))∧bJ ρ w w' l lg dp)∨∃(i:Nat) (s:List UInt8) (o:Int),ks[i]?=some (s,o)∧gT ks l=some o∧av s l=true∧e=.returned (.int .i64 i)∧bJ ρ w w' l.tail lg dp
theorem Km (ρ:br)(w:World)(l:bH)(lg dp:Bool)(h:ρ.ij w l lg dp)(ks:List (List UInt8×Int))(b n pb:Nat)(hn:ks.length=n)(hb:au w b 142 (opsV ks))(hbg:b≠ρ.g)(hp:au w pb 58 #[ρ.ptr])(F9:pb≠ρ.g)(hsm:n≤10):
  Calls Tryz.prog 134 #[.slice (some ⟨b,0,none⟩) n n,.func (.func 135) #[] #[.pointer (some ⟨pb,0,none⟩)]] w (F8 ρ w ks l lg dp):=by
 have HH:=hid h;have HB:=hid hb;have HP:=hid hp;clear h hb hp;have en:∀args w,(callFunc 135 args).run Tryz.prog w=.ok (.enter 135 args) w:=enters_of Tryz.func135 (by kernel_rfl) rfl;go_enter Tryz.func134,Tryz.ntmps134;go_wp2_with fail;go_loopw [8] (fun u wr=>∃(i:Nat),i≤n∧u=.int .i64 i∧bJ ρ w wr l lg dp∧gT ks l=gT (ks.drop i) l) (fun u _=>n - (intOf u).toNat);case atStart=>exact⟨0,Nat.zero_le _,rfl,bJ.refl HH.out,rfl⟩
 case round=>
  obtain⟨i,hi,rfl,hD,hst⟩:=hrel;have HD:=hid hD;have HS:=hid hst;clear hD hst;by_cases hlt:i < n
  ·obtain⟨⟨s,o⟩,hs⟩:∃x,ks[i]?=some x:=⟨_,List.getElem?_eq_getElem (by omega)⟩;obtain⟨c0,c1⟩:=Aq (HD.out.blk HB.out hbg) hs;have ya:=hid (pR hs);have U8:=hid hs;clear hs;have hm:=Kl ρ wr l lg dp HD.out.at_ s o pb (HD.out.blk HP.out F9);cases hh:av s l
   ·have lB:=hid hh;rw[hh,dm hh] at hm;clear hh;go_wp2_with fail;refine hm.mono ?_;clear hm;rintro e w1 ⟨rfl,d1⟩;go_wp2_with fail;go_roundw;case rel=>exact⟨i+1,by omega,by go_num,HD.out.trans d1,by rw[HS.out,ya.out,Mw lB.out]⟩
    case measure=>simp[intOf];omega
   ·have lB:=hid hh;rw[hh,dy hh] at hm;clear hh;go_wp2_with fail;refine hm.mono ?_;clear hm;rintro e w1 ⟨rfl,d1⟩;go_wp2_with fail;go_ret;exact .inr ⟨i,s,o,U8.out,by rw[HS.out,ya.out,GX lB.out],lB.out,rfl,HD.out.trans d1⟩
  ·obtain rfl:i=n:=by omega
   have ya:=hid (show ks.drop i=[] from List.drop_eq_nil_of_le (by omega));go_wp2_with fail;go_ret;exact .inl ⟨by rw[HS.out,ya.out];rfl,rfl,HD.out⟩
def RU (u:Nat→Value)(ch:List Nat)(vs:List Value)(i:Nat)(_:World)(v:Value):Prop:=
 match ch.idxOf? i with
 | some k=>vs[k]?=some v
 | none=>v=u i
def mB (l:List Oper):List Nat→Bool
 | a::b::r=>(match l[b]? with | some o=>iq o a | none=>false)&& mB l (b::r)
 | _=>true
def Mx (P:Program)(l:List Oper)(u:Nat→Value)(ch:List Nat)(G:List Value→World→Prop)(a0:Act)(i:Nat)(o:Oper):Prop:=
 ∀ρ w vs,dn ρ→G vs w→nT l (RU u ch vs) a0.eval ρ w o (tmpsOf o)→o.guard=none∧
  match ch.idxOf? i with
  | none=>(execOp ρ o).run P w=.ok (.value (u i)) w
  | some k=>vs.length=k→xR P o ρ w fun v w'=>G (vs++ [v]) w'
def Kn (P:Program)(l:List Oper)(u:Nat→Value)(ch:List Nat)(G:List Value→World→Prop)(a0:Act):List Oper→Nat→Prop
 | [],_=>True
 | o::rest,i=>Mx P l u ch G a0 i o∧Kn P l u ch G a0 rest (i+1)
theorem Da {P:Program} {L:List Oper} {u:Nat→Value} {ch:List Nat} {G:List Value→World→Prop} {a0:Act}:∀ {l:List Oper} {k:Nat},Kn P L u ch G a0 l k→∀i o,l[i]?=some o→Mx P L u ch G a0 (k+i) o
 | [],_,_,i,o,h=>by simp at h
 | x::l,k,hs,0,o,h=>by simp at h;subst h;exact hs.1
 | x::l,k,hs,i+1,o,h=>by have:=Da hs.2 i o (by simpa using h);rwa [show k+1+i=k+(i+1) by omega] at this
theorem GY {ch:List Nat} {i k:Nat}(h:ch.idxOf? i=some k):ch[k]?=some i:=by rw[List.idxOf?,List.findIdx?_eq_some_iff_getElem] at h;obtain⟨hk,h1,_⟩:=h;rw[List.getElem?_eq_getElem hk];simpa using h1
theorem GZ {ch:List Nat} {i:Nat}(h:ch.idxOf? i=none):i∉ch:=by intro hm;rw[List.idxOf?,List.findIdx?_eq_none_iff] at h;have:=h i hm;simp at this
theorem G0 {ch:List Nat}(hn:ch.Nodup) {i k:Nat}(h:ch[k]?=some i):ch.idxOf? i=some k:=by
 obtain⟨hk,he⟩:=List.getElem?_eq_some_iff.1 h;cases hc:ch.idxOf? i with
 | none=>exact absurd (List.mem_of_getElem? h) (GZ hc)
 | some k'=>have h2:=GY hc;obtain⟨G1,he'⟩:=List.getElem?_eq_some_iff.1 h2;congr 1;exact(List.getElem_inj hn).1 (he'.trans he.symm)
theorem Db {l:List Oper}:∀ {ch:List Nat} {k a b:Nat},mB l ch=true→ch[k]?=some a→ch[k+1]?=some b→∃o,l[b]?=some o∧iq o a=true
 | [],_,_,_,_,h,_=>by simp at h
 | [x],0,_,_,_,_,h=>by simp at h
 | [x],_+1,_,_,_,h,_=>by simp at h
 | x::y::r,0,a,b,hc,h1,h2=>by
   simp at h1 h2;subst h1 h2;simp only[mB,Bool.and_eq_true] at hc;have:=hc.1;split at this
   ·rename_i o ho;exact⟨o,ho,this⟩
   ·cases this
 | x::y::r,k+1,a,b,hc,h1,h2=>by simp only[mB,Bool.and_eq_true] at hc;exact Db hc.2 (by simpa using h1) (by simpa using h2)
theorem Inv.imp {l:List Oper} {V V':Nat→World→Value→Prop} {R:World→World→Prop} {a0:Act} {w0:World} {m:Nat} {listed:Array Bool} {a:Act} {w:World}(I:Inv l V R a0 w0 m listed a w)(h:∀i w v,V i w v→V' i w v):Inv l V' R a0 w0 m listed a w:=
 ⟨I.r,I.defers,I.size,I.old,fun i o d h1 h2 h3=>h _ _ _ (I.new i o d h1 h2 h3),I.closed,I.len,I.tail⟩
theorem RV {u:Nat→Value} {ch:List Nat} {vs:List Value}(v:Value)(i:Nat)(w:World)(x:Value)(h:RU u ch vs i w x):RU u ch (vs++ [v]) i w x:=by
 unfold RU at*;cases hk:ch.idxOf? i with
 | some k=>rw[hk] at h;simp only at h ⊢;obtain⟨hlt,_⟩:=List.getElem?_eq_some_iff.1 h;rw[List.getElem?_append_left hlt];exact h
 | none=>rw[hk] at h;exact h
section
variable {P:Program} {l zs:List Oper} {Q:Exit→Act→World→Prop} {u:Nat→Value} {ch:List Nat} {G:List Value→World→Prop} {a0:Act} {w0:World}
theorem Dc {N:Nat}(vs:List Value)(aO:eQ l N l 0=true)(hz:fL (l++zs) zs l.length=true) {listed:Array Bool} {a:Act} {w:World}(hf:kA (RU u ch vs) (fun a w=>wpList P (l++zs).toArray Q zs a w) l 0 a0 w)(I:Inv l (RU u ch vs) (fun _ _=>True) a0 w0 (l++zs).length listed a w)
  (h0:cT l.length listed=0):wpAny P .any (l++zs).toArray Q zs.length listed a w:=by
 have hall:=fG h0;have ha:a=fill (fun d=>a.eval (.tmp d)) l a0:=by
  have h1:a.tmps=(fill (fun d=>a.eval (.tmp d)) l a0).tmps:=by
   apply Array.ext_getElem?;intro t;by_cases ht:t < a0.tmps.size
   ·rw[vz _ _ _ _ ht];split
    ·simp[Act.eval,I.size,ht]
    ·rename_i hno;refine I.old t ?_;intro i o hi hd _;exact hno ⟨o,List.mem_of_getElem? hi,hd⟩
   ·rw[Array.getElem?_eq_none (by rw[I.size];omega),Array.getElem?_eq_none (by rw[tv];omega)]
  have h2:a.defers=(fill (fun d=>a.eval (.tmp d)) l a0).defers:=by rw[oX,I.defers]
  exact Ep h1 h2
 have hK:=zL (V:=RU u ch vs) (fun d=>a.eval (.tmp d)) l 0 a0 (fun i o d hi hd=>by
  rw[Nat.zero_add]
  have JB:i < l.length:=by
   rcases Nat.lt_or_ge i l.length with h' | h'
   ·exact h'
   ·rw[List.getElem?_eq_none h'] at hi;cases hi
  exact I.new i o d hi (hall i JB) hd) hf
 rw[← ha] at hK;refine vA aO hz 0 zs rfl listed a w I.len ?_ hK;intro i hi;constructor
 ·intro hl;rcases Nat.lt_or_ge i l.length with h' | h'
  ·omega
  ·rw[I.tail i h'] at hl;cases hl
 ·intro hl;exact hall i (by omega)
theorem jw {id:Nat} {ops:List Oper}(zs:List Oper)(l:List Oper)(Er:ops=l++zs)(u:Nat→Value)(ch:List Nat)(G:List Value→World→Prop)(rG:∀vs w,G vs w→G vs w.drew)(hG:G [] w0)
  (hm:P.follows .mixedOrders=true) (aO:eQ l a0.tmps.size l 0=true) (hz:fL (l++zs) zs l.length=true) (hch:mB l ch=true) (hnd:ch.Nodup) (LP:ch.all (fun i=>decide (i < l.length))=true)
  (hs:Kn P l u ch G a0 l 0) (hf:∀vs w,vs.length=ch.length→G vs w→kA (RU u ch vs) (fun a w=>wpList P ops.toArray Q zs a w) l 0 a0 w):(Code.region id ops.toArray true).wp P Q a0 w0:=by
 subst Er;have main:∀(fuel:Nat) (listed:Array Bool) (a:Act) (w:World) (vs:List Value),Inv l (RU u ch vs) (fun _ _=>True) a0 w0 (l++zs).length listed a w→G vs w→(∀k i,ch[k]?=some i→(listed.getD i false=true↔k < vs.length))→vs.length≤ch.length→fuel=cT l.length listed+zs.length→wpAny P .any (l++zs).toArray Q fuel listed a w:=by
  intro fuel;induction fuel with
  | zero=>
    intro listed a w vs I hg jW hvl E5;have h0:cT l.length listed=0:=by omega
    have hz0:zs.length=0:=by omega
    have hall:=fG h0;have hvs:vs.length=ch.length:=by
     rcases Nat.lt_or_ge vs.length ch.length with h' | h'
     ·have hi:=List.getElem?_eq_getElem h';have hb:=of_decide_eq_true (List.all_eq_true.1 LP _ (List.getElem_mem h'));have:=(jW _ _ hi).1 (hall _ hb);omega
     ·omega
    have:=Dc vs aO hz (hf vs w hvs hg) I h0;rwa [hz0] at this
  | succ fuel ih=>
    intro listed a w vs I hg jW hvl E5;by_cases h0:cT l.length listed=0
    ·have hall:=fG h0;have hvs:vs.length=ch.length:=by
      rcases Nat.lt_or_ge vs.length ch.length with h' | h'
      ·have hi:=List.getElem?_eq_getElem h';have hb:=of_decide_eq_true (List.all_eq_true.1 LP _ (List.getElem_mem h'));have:=(jW _ _ hi).1 (hall _ hb);omega
      ·omega
     have:=Dc vs aO hz (hf vs w hvs hg) I h0;rwa [show zs.length=fuel+1 by omega] at this
    ·obtain⟨i0,CF,E6⟩:=nu h0;obtain⟨i,⟨hi,hu⟩,JK⟩:=least (p:=fun i=>i < l.length∧listed.getD i false=false) i0 ⟨CF,E6⟩;have kQ:∀j,j < i→listed.getD j false=true:=fun j hj=>by
      cases hc:listed.getD j false with
      | true=>rfl
      | false=>exact absurd ⟨by omega,hc⟩ (JK j hj)
     have BW:l[i]?=some l[i]:=List.getElem?_eq_getElem hi;have rH:=dN aO i _ BW;simp only[mZ,Bool.and_eq_true,Nat.zero_add] at rH;have lD:i∈Region.ready .any (l++zs).toArray listed:=by
      refine rF (pF BW) ?_ fun j hj=>kQ j (of_decide_eq_true (List.all_eq_true.1 rH.1.1.1 j hj))
      rw[gR (by rw[I.len];simp;omega)];exact hu
     refine⟨(fun hnil=>by rw[hnil] at lD;cases lD),fun j hj=>?_⟩;obtain⟨zN,oj,qz,hall⟩:=mem_ready.1 hj;have FY:j <(l++zs).length:=by
      rcases Nat.lt_or_ge j (l++zs).length with h' | h'
      ·exact h'
      ·rw[Array.getElem?_eq_none (by simpa using h')] at qz;cases qz
     rw[gR (by rw[I.len];exact FY)] at zN;have iG:∀k∈iI oj,listed.getD k false=true:=fun k hk=>by obtain⟨e,he,hb,rfl⟩:=mb.1 hk;exact hall e he hb
     have QG:j < l.length:=by
      rcases Nat.lt_or_ge j l.length with h' | h'
      ·exact h'
      ·exfalso;have Wf:zs[j - l.length]?=some oj:=by
        have:(l++zs)[j]?=some oj:=by simpa using qz
        rw[List.getElem?_append_right (by omega)] at this;exact this
       have LQ:=kZ hz (j - l.length) oj Wf;rw[show l.length+(j - l.length)=j by omega] at LQ;have hc:=ld (L:=l++zs) (fun k=>listed.getD k false=true) (by
        intro k ok hk hd e he
        rcases Nat.lt_or_ge k l.length with JL | JL
        ·rw[List.getElem?_append_left JL] at hk
         exact I.closed k ok hk hd e he
        ·rw[I.tail k JL] at hd;cases hd) j (iI oj) LQ.2 iG i (by omega)
       rw[hu] at hc;cases hc
     have zM:l[j]?=some oj:=by
      have:(l++zs)[j]?=some oj:=by simpa using qz
      rw[List.getElem?_append_left QG] at this;exact this
     have hst:=Da hs j oj zM;rw[Nat.zero_add] at hst;have NQ:=Inv.reads aO I zM zN iG (tmpsOf oj) (fun _ h=>h);obtain⟨hgd,hstep⟩:=hst a.eval w vs (oV a) hg NQ;have Wo:j < listed.size:=by rw[I.len];exact FY
     have RX:fuel=cT l.length (listed.setIfInBounds j true)+zs.length:=by have:=nt l.length listed j Wo QG zN;omega
     unfold wpOp;rw[qz];show if Region.wanted oj (yielded (l++zs).toArray a.tmps)=true then _ else _
     rw[if_pos (by simp[Region.wanted,hgd])];refine .inl ?_;cases G5:ch.idxOf? j with
     | none=>
       simp only[G5] at hstep;refine mf (T:=fun v w'=>v=u j∧w'=w) (cz hstep ⟨rfl,rfl⟩) ?_;rintro v w' ⟨rfl,rfl⟩;refine ih _ _ _ vs (I.step aO (fun _ _ _ _ h _=>h) (fun _ _ _ _ _=>trivial) zM FY zN iG trivial ?_) hg ?_ hvl RX
       ·unfold RU;simp only[G5]
       ·intro k i' hk;have hne:i'≠j:=fun e=>GZ G5 (e▸List.mem_of_getElem? hk)
        rw[gQ _ _ _ Wo,if_neg hne];exact jW k i' hk
     | some k=>
       simp only[G5] at hstep;have G6:=GY G5;have hvk:vs.length=k:=by
        have h1:¬k < vs.length:=fun h=>by have:=(jW k j G6).2 h;rw[zN] at this;cases this
        match k,G6,h1 with
        | 0,_,h1=>omega
        | k+1,G6,h1=>
          obtain⟨Wh,_⟩:=List.getElem?_eq_some_iff.1 G6;have hp:ch[k]?=some ch[k]:=List.getElem?_eq_getElem (by omega);obtain⟨o',Cf,he⟩:=Db hch hp G6;rw[zM] at Cf;injection Cf with Cf;subst Cf
          have:=(jW k _ hp).1 (iG _ (dZ.1 he));omega
       refine mf (hstep hvk) ?_;intro v w' QU;have I':=(I.imp (fun i w x h=>RV (ch:=ch) (u:=u) v i w x h));refine ih _ _ _ (vs++ [v]) (I'.step aO (fun _ _ _ _ h _=>h) (fun _ _ _ _ _=>trivial) zM FY zN iG trivial ?_) QU ?_ ?_ RX
       ·unfold RU;simp only[G5];rw[← hvk];simp
       ·intro k' i' G1;rw[gQ _ _ _ Wo,List.length_append,List.length_singleton];by_cases hij:i'=j
        ·subst hij;have:=G0 hnd G1;rw[G5] at this;injection this with this;simp only[if_true,true_iff];omega
        ·rw[if_neg hij,jW k' i' G1];have hne:k'≠k:=fun e=>hij (by rw[e,G6] at G1;injection G1 with G1;exact G1.symm)
         omega
       ·obtain⟨Wh,_⟩:=List.getElem?_eq_some_iff.1 G6;simp;omega
 refine wp_region_any hm ?_;have:=main (l++zs).toArray.size (Array.replicate (l++zs).toArray.size false) a0 w0.drew [] ⟨trivial,rfl,rfl,fun _ _=>rfl,(fun i o d _ h=>by rw[cq] at h;cases h),(fun i o _ h=>by rw[cq] at h;cases h),by simp,fun i _=>cq _ _⟩ (rG _ _ hG) (fun k i _=>by rw[cq];simp) (by simp) (by
  have:cT l.length (Array.replicate (l++zs).toArray.size false)=l.length:=by
   unfold cT
   rw[List.filter_eq_self.2 (fun i _=>by rw[cq];rfl),List.length_range]
  rw[this];simp)
 exact this
end
theorem ah.cell {a b:World}(h:ah a b) {p:Addr}(hp:p.block < a.heap.size):b.cell? p=a.cell? p:=Below.cell h hp
theorem qH {a b:World} {row:Option Nat}(h:a.grownBy b row) {p:Addr}(hp:p.block < a.heap.size)(hr:some p.block≠row):b.cell? p=a.cell? p:=by unfold World.cell?;rw[h.block p.block hp hr]
def EY (o0 o1 o2 o3 o4 o5 o6:Oper)(q d0 d1 d2 d3 d4 d5 d6:Tmp):Bool:=
 (tmpsOf o0== [q])&&(ct [o0,o1,o2,o3,o4,o5,o6] o0 q==none)&&(tmpsOf o1== [d0])&&(ct [o0,o1,o2,o3,o4,o5,o6] o1 d0==some 0)&&
 (tmpsOf o2== [0])&&(ct [o0,o1,o2,o3,o4,o5,o6] o2 0==none)&&(tmpsOf o3== [d2])&&(ct [o0,o1,o2,o3,o4,o5,o6] o3 d2==some 2)&&
 (tmpsOf o4== [d3])&&(ct [o0,o1,o2,o3,o4,o5,o6] o4 d3==some 3)&&(tmpsOf o5== [d1,d4])&&(ct [o0,o1,o2,o3,o4,o5,o6] o5 d1==some 1)&&(ct [o0,o1,o2,o3,o4,o5,o6] o5 d4==some 4)&&
 (tmpsOf o6== [q])&&(ct [o0,o1,o2,o3,o4,o5,o6] o6 q==none)&&
 (o0.dst==some d0)&&(o1.dst==some d1)&&(o2.dst==some d2)&&(o3.dst==some d3)&&(o4.dst==some d4)&&(o5.dst==some d5)&&(o6.dst==some d6)&&
 o0.guard.isNone && o1.guard.isNone && o2.guard.isNone && o3.guard.isNone && o4.guard.isNone && o5.guard.isNone && o6.guard.isNone
section
variable {P:Program} {β:Type} (f:β→List Value) (val:β→Value) (e:TypeId) (size base:Nat) (l:List β) (lv:Value) (Post:β→World→World→Prop) (w0:World)
def My:List Value→World→Prop
 | [],w=>ah w0 w
 | [a],w=>∃y w1 fl,a=val y∧ah w0 w1∧Post y w1 fl∧ah fl w
 | [a,s],w=>∃y w1 fl g0,a=val y∧s=.slice (some ⟨g0,0,none⟩) 1 1∧ah w0 w1∧Post y w1 fl∧ah fl w∧au w g0 e (f y).toArray
 | [a,s,v],w=>∃y w1 fl w2,a=val y∧ah w0 w1∧Post y w1 fl∧ah fl w2∧df f e size w2 base lv l∧w2.grownBy w lv.ownBlock∧df f e size w base v (l++ [y])∧(lv=.slice none 0 0→l=[]→df f e size w w2.heap.size v [y])
 | _,_=>False
theorem Ko (vs:List Value)(w:World)(h:My f val e size base l lv Post w0 vs w):My f val e size base l lv Post w0 vs w.drew:=by
 match vs,h with
 | [],h=>exact ah.trans h (ah.drew _)
 | [a],⟨y,w1,fl,h1,h2,h3,h4⟩=>exact⟨y,w1,fl,h1,h2,h3,h4.trans (ah.drew _)⟩
 | [a,s],⟨y,w1,fl,g0,h1,h2,h3,h4,h5,h6⟩=>exact⟨y,w1,fl,g0,h1,h2,h3,h4,h5.trans (ah.drew _),h6.drew⟩
 | [a,s,v],⟨y,w1,fl,w2,h1,h2,h3,h4,h5,h6,h7,h8⟩=>exact⟨y,w1,fl,w2,h1,h2,h3,h4,h5,⟨h6.os,h6.tape,h6.output,h6.size,h6.block⟩,h7.later (ah.drew _),fun a b=>(h8 a b).later (ah.drew _)⟩
 | _::_::_::_::_,h=>exact h.elim
variable {f val e size base l lv Post w0}
variable {Q:Exit→Act→World→Prop} {a0:Act} {id:Nat} {o0 o1 o2 o3 o4 o5 o6 o7:Oper} {q d0 d1 d2 d3 d4 d5 d6:Tmp} {qb k g:Nat} {pq ptr:Value} {F:FuncId} {args:Array Value}
theorem lq (t ty:TypeId)(z:Value)(bytes:Nat)
  (hm:P.follows .mixedOrders=true) (aO:eQ [o0,o1,o2,o3,o4,o5,o6] a0.tmps.size [o0,o1,o2,o3,o4,o5,o6] 0=true) (hz:fL [o0,o1,o2,o3,o4,o5,o6,o7] [o7] 7=true) (hch:mB [o0,o1,o2,o3,o4,o5,o6] [3,4,5]=true) (rW:EY o0 o1 o2 o3 o4 o5 o6 q d0 d1 d2 d3 d4 d5 d6=true)
  (hq:a0.eval (.tmp q)=pq) (h0:a0.eval (.tmp 0)=ptr)
  (G7:∀ρ w,ρ (.tmp q)=pq→(execOp ρ o0).run P w=.ok (.value (.pointer (some ⟨qb,k,none⟩))) w) (G8:∀ρ w,ρ (.tmp q)=pq→(execOp ρ o6).run P w=.ok (.value (.pointer (some ⟨qb,k,none⟩))) w)
  (RY:∀ρ w,ρ (.tmp d0)=.pointer (some ⟨qb,k,none⟩)→w.cell? ⟨qb,k,none⟩=some lv→(execOp ρ o1).run P w=.ok (.value lv) w)
  (hmv:∀ρ w,ρ (.tmp 0)=ptr→(execOp ρ o2).run P w=.ok (.value ptr) w)
  (jW:∀ρ w,dn ρ→ρ (.tmp d2)=ptr→(execOp ρ o3).run P w=.ok (.enter F args) w)
  (Ha:∀ρ w y,ρ (.tmp d3)=val y→(execOp ρ o4).run P w=.ok (.value (.slice (some ⟨w.heap.size,0,none⟩) 1 1)) (w.alloc (.cells (f y).toArray e)))
  (hap:∀ρ w s v' w',ρ (.tmp d1)=lv→ρ (.tmp d4)=s→(Builtin.append_ #[t,t] ty #[lv,s]).run P w=.ok v' w'→(execOp ρ o5).run P w=.ok (.value v') w')
  (ht:P.underlying t=some (.slice e)) (nS:(P.info? e).map (fun i=>(i.zero,i.size,i.bytes))=some (some z,size,bytes)) (hzs:z.cells.size=size) (hsz:0 < size) (hf:∀x,(f x).length=size) (h1:∀y,∀u∈f y,u.oneCell'=true)
  (hown:df f e size w0 base lv l) (hcell:w0.cell? ⟨qb,k,none⟩=some lv) (hqg:qb≠g) (uT:lv.ownBlock≠some g) (hlq:lv.ownBlock≠some qb) (hlen:(l.length+1)*bytes≤140737488355328) (oU:l.length+1≤140737488355328) (hbase:base≤w0.heap.size)
  (kG:∀w,ah w0 w→Calls P F args w fun e w'=>∃y,e=.returned (val y)∧Post y w w') (F9:∀y w w',Post y w w'→w.grownBy w' (some g))
  (uU:∀y s v' w1 fl w2 W,ah w0 w1→Post y w1 fl→ah fl w2→df f e size w2 base lv l→w2.grownBy W lv.ownBlock→df f e size W base v' (l++ [y])→(lv=.slice none 0 0→l=[]→df f e size W w2.heap.size v' [y])→W.cell? ⟨qb,k,none⟩=some lv→
    wpList P [o0,o1,o2,o3,o4,o5,o6,o7].toArray Q [o7] (((((((a0.put (some d0) (.pointer (some ⟨qb,k,none⟩))).put (some d1) lv).put (some d2) ptr).put (some d3) (val y)).put (some d4) s).put (some d5) v').put (some d6) (.pointer (some ⟨qb,k,none⟩))) W):
  (Code.region id [o0,o1,o2,o3,o4,o5,o6,o7].toArray true).wp P Q a0 w0:=by
 simp only[EY,Bool.and_eq_true,beq_iff_eq,Option.isNone_iff_eq_none] at rW;obtain⟨⟨⟨⟨⟨⟨⟨⟨⟨⟨⟨⟨⟨⟨⟨⟨⟨⟨⟨⟨⟨⟨⟨⟨⟨⟨⟨⟨t0,s0⟩,t1⟩,s1⟩,t2⟩,s2⟩,t3⟩,s3⟩,t4⟩,s4⟩,t5⟩,s5⟩,s5'⟩,t6⟩,s6⟩,e0⟩,e1⟩,e2⟩,e3⟩,e4⟩,e5⟩,e6⟩,g0⟩,g1⟩,g2⟩,g3⟩,g4⟩,g5⟩,g6⟩:=rW;have zj:qb < w0.heap.size:=(by rcases Nat.lt_or_ge qb w0.heap.size with h | h;exact h;exact absurd hcell (by unfold World.cell?;rw[Array.getElem?_eq_none h];simp))
 -- the cell stays
 have vW:∀ {y w1 fl w},ah w0 w1→Post y w1 fl→ah fl w→w.cell? ⟨qb,k,none⟩=some lv∧df f e size w base lv l∧w0.heap.size≤w.heap.size:=by
  intro y w1 fl w ha hb hc;have hg:=F9 _ _ _ hb;have z1:qb < w1.heap.size:=Nat.lt_of_lt_of_le zj ha.size;have z2:qb < fl.heap.size:=Nat.lt_of_lt_of_le z1 hg.size;refine⟨?_,?_,Nat.le_trans ha.size (Nat.le_trans hg.size hc.size)⟩
  ·rw[hc.cell (p:=⟨qb,k,none⟩) z2,qH hg (p:=⟨qb,k,none⟩) z1 (fun e=>hqg (by injection e)),ha.cell (p:=⟨qb,k,none⟩) zj];exact hcell
  ·exact((hown.later ha).grown hg uT).later hc
 have Ar:∀vs w,My f val e size base l lv Post w0 vs w→w.cell? ⟨qb,k,none⟩=some lv:=by
  intro vs w h
  match vs,h with
  | [],h=>rw[ah.cell h (p:=⟨qb,k,none⟩) zj];exact hcell
  | [a],⟨y,w1,fl,_,h2,h3,h4⟩=>exact(vW h2 h3 h4).1
  | [a,s],⟨y,w1,fl,_,_,_,h2,h3,h4,_⟩=>exact(vW h2 h3 h4).1
  | [a,s,v],⟨y,w1,fl,w2,_,h2,h3,h4,_,h6,_,_⟩=>obtain⟨k1,_,k3⟩:=vW h2 h3 h4;rw[qH h6 (p:=⟨qb,k,none⟩) (Nat.lt_of_lt_of_le zj k3) (fun e=>hlq e.symm)];exact k1
  | _::_::_::_::_,h=>exact h.elim
 refine jw [o7] [o0,o1,o2,o3,o4,o5,o6] rfl (fun i=>if i=0 then .pointer (some ⟨qb,k,none⟩)else if i=1 then lv else if i=2 then ptr else .pointer (some ⟨qb,k,none⟩)) [3,4,5] (My f val e size base l lv Post w0) (Ko f val e size base l lv Post w0) (ah.refl w0) hm aO hz hch (by decide) rfl ?_ ?_
 ·refine⟨?_,?_,?_,?_,?_,?_,?_,trivial⟩
  ·intro ρ w vs hc hG hr;rw[t0] at hr;have r0:=hr.1;simp only[s0] at r0;exact⟨g0,G7 ρ w (r0.trans hq)⟩
  ·intro ρ w vs hc hG hr;rw[t1] at hr;have r0:=hr.1;simp only[s1] at r0;exact⟨g1,RY ρ w r0 (Ar _ _ hG)⟩
  ·intro ρ w vs hc hG hr;rw[t2] at hr;have r0:=hr.1;simp only[s2] at r0;exact⟨g2,hmv ρ w (r0.trans h0)⟩
  ·intro ρ w vs hc hG hr;rw[t3] at hr;have r0:=hr.1;simp only[s3] at r0;refine⟨g3,?_⟩;show vs.length=0→_;intro hl;obtain rfl:=List.eq_nil_of_length_eq_zero hl;refine Gl (jW ρ w hc r0) ((kG w hG).mono ?_);rintro e' w' ⟨y,rfl,hp⟩;exact⟨_,rfl,y,w,w',rfl,hG,hp,ah.refl _⟩
  ·intro ρ w vs hc hG hr;rw[t4] at hr;have r0:=hr.1;simp only[s4] at r0;refine⟨g4,?_⟩;show vs.length=1→_;intro hl
   match vs,hl with
   | [a],_=>have r0:some a=some (ρ (.tmp d3)):=r0;injection r0 with r0;obtain⟨y,w1,fl,ha,h2,h3,h4⟩:=hG;refine cz (Ha ρ w y (r0.symm.trans ha)) ?_;exact⟨y,w1,fl,w.heap.size,ha,rfl,h2,h3,h4.trans ((Below.refl _ _).alloc (Nat.le_refl _) _),au.new w e _⟩
  ·intro ρ w vs hc hG hr;rw[t5] at hr;have r0:=hr.1;have r1:=hr.2.1;simp only[s5] at r0;simp only[s5'] at r1;refine⟨g5,?_⟩;show vs.length=2→_;intro hl
   match vs,hl with
   | [a,s],_=>
     have r1:some s=some (ρ (.tmp d4)):=r1;injection r1 with r1;obtain⟨y,w1,fl,gg,ha,hs,h2,h3,h4,h5⟩:=hG;obtain⟨k1,k2,k3⟩:=vW h2 h3 h4;obtain⟨v',w',hrun,ho,YU⟩:=lG (P:=P) (w:=w) t ty z bytes ht nS hzs hsz hf (h1 y) k2 gg h5 hlen oU (Nat.le_trans hbase k3);refine cz (hap ρ w _ v' w' r0 (r1.symm.trans hs) hrun) ⟨y,w1,fl,w,ha,h2,h3,h4,k2,YU.grown,ho,?_⟩;intro hlv hl0;subst hl0;have k4:df f e size w w.heap.size lv ([]:List β):=by rw[hlv];exact df.nil
     obtain⟨v2,Co,YV,mC,_⟩:=lG (P:=P) (w:=w) t ty z bytes ht nS hzs hsz hf (h1 y) k4 gg h5 hlen oU (Nat.le_refl _);rw[hrun] at YV;injection YV with e1 e2;rw[e1,e2];exact mC
  ·intro ρ w vs hc hG hr;rw[t6] at hr;have r0:=hr.1;simp only[s6] at r0;exact⟨g6,G8 ρ w (r0.trans hq)⟩
 ·intro vs w hl hG;have G9:=Ar _ _ hG
  match vs,hl with
  | [a,s,v],_=>obtain⟨y,w1,fl,w2,ha,h2,h3,h4,h5,h6,h7,h8⟩:=hG;simp only[kA,e0,e1,e2,e3,e4,e5,e6];intro a0' p0 a1 p1 a2 p2 a3 p3 a4 p4 a5 p5 a6 p6;have z0:a0'=.pointer (some ⟨qb,k,none⟩):=p0;have z1:a1=lv:=p1;have z2:a2=ptr:=p2;have z3:some a=some a3:=p3;have z4:some s=some a4:=p4;have z5:some v=some a5:=p5;have z6:a6=.pointer (some ⟨qb,k,none⟩):=p6;injection z3 with z3;injection z4 with z4;injection z5 with z5;rw[z0,z1,z2,← z3,← z4,← z5,z6,ha];exact uU y s v w1 fl w2 w h2 h3 h4 h5 h6 h7 h8 G9
end
def Ox (P:Program)(o:Oper)(ρ:Operand→Value)(w:World)(E:List PanicEntry→World→Prop):Prop:=
 match (execOp ρ o).run P w with
 | .ok (.enter f args) w'=>Calls P f args w' fun e w''=>∃C,e=.panicked C∧E C w''
 | _=>False
theorem Oy {P:Program} {o:Oper} {a:Act} {w:World} {E:List PanicEntry→World→Prop} {K:Act→World→Prop} {Q:Exit→Act→World→Prop}
  (h:Ox P o a.eval w E) (hQ:∀C w',E C w'→Q (.panic C) a w'):o.wp P a w K Q:=by
 unfold Ox at h;unfold Oper.wp;generalize (execOp a.eval o).run P w=r at*;cases r with
 | ok n w'=>
   cases n <;> simp only[Oper.upon] <;> first | exact h.elim | skip
   exact h.mono fun e w'' ⟨C,he,ht⟩=>by subst he;exact hQ _ _ ht
 | halt x w'=>exact h.elim
def Dd (l:List Oper)(c:Nat)(bs:List Nat):Bool:=bs.all fun i=>match l[i]? with
 | some o=>(iI o).any fun e=>e==c || bs.contains e
 | none=>true
def YW (P:Program)(l:List Oper)(R:World→World→Prop)(V:Nat→World→Value→Prop)(E:List PanicEntry→World→Prop)(c:Nat)(bs:List Nat)(a0:Act)(w0:World)(i:Nat)(o:Oper):Prop:=
 i∈bs∨∀ρ w,dn ρ→R w0 w→nT l V a0.eval ρ w o (tmpsOf o)→o.guard=none∧if i=c then Ox P o ρ w E else xR P o ρ w fun v w'=>R w w'∧V i w' v
def Kq (P:Program)(l:List Oper)(R:World→World→Prop)(V:Nat→World→Value→Prop)(E:List PanicEntry→World→Prop)(c:Nat)(bs:List Nat)(a0:Act)(w0:World):List Oper→Nat→Prop
 | [],_=>True
 | o::rest,i=>YW P l R V E c bs a0 w0 i o∧Kq P l R V E c bs a0 w0 rest (i+1)
theorem De {P:Program} {L:List Oper} {R:World→World→Prop} {V:Nat→World→Value→Prop} {E:List PanicEntry→World→Prop} {c:Nat} {bs:List Nat} {a0:Act} {w0:World}:∀ {l:List Oper} {k:Nat},Kq P L R V E c bs a0 w0 l k→∀i o,l[i]?=some o→YW P L R V E c bs a0 w0 (k+i) o
 | [],_,_,i,o,h=>by simp at h
 | x::l,k,hs,0,o,h=>by simp at h;subst h;exact hs.1
 | x::l,k,hs,i+1,o,h=>by have:=De hs.2 i o (by simpa using h);rwa [show k+1+i=k+(i+1) by omega] at this
section
variable {P:Program} {l zs:List Oper} {Q:Exit→Act→World→Prop} {R:World→World→Prop} {V:Nat→World→Value→Prop} {a0:Act} {w0:World}
theorem lU {id:Nat} {ops:List Oper}(zs:List Oper)(l:List Oper)(Er:ops=l++zs)(c:Nat)(bs:List Nat)(E:List PanicEntry→World→Prop)(R:World→World→Prop)(hrefl:∀w,R w w)(JJ:∀a b c,R a b→R b c→R a c)(rG:∀w,R w w.drew)
  (V:Nat→World→Value→Prop) (hV:∀i w w' v,V i w v→R w w'→V i w' v) (hm:P.follows .mixedOrders=true) (aO:eQ l a0.tmps.size l 0=true) (hz:fL (l++zs) zs l.length=true)
  (hc:c < l.length) (hb:Dd l c bs=true) (hs:Kq P l R V E c bs a0 w0 l 0) (hQ:∀C a w,a.defers=a0.defers→E C w→Q (.panic C) a w):(Code.region id ops.toArray true).wp P Q a0 w0:=by
 subst Er;have aft:∀(listed:Array Bool) (a:Act) (w:World),Inv l V R a0 w0 (l++zs).length listed a w→listed.getD c false=false→∀(n i:Nat),i < n→i∈bs→i < l.length→listed.getD i false=false:=by
  intro listed a w I YX n;induction n with
  | zero=>intro i hi;omega
  | succ n ih=>
    intro i hi hib JB;cases hl:listed.getD i false with
    | false=>rfl
    | true=>
      exfalso;have BW:l[i]?=some l[i]:=List.getElem?_eq_getElem JB;have h1:=List.all_eq_true.1 hb i hib;rw[BW] at h1;obtain⟨e,he,VF⟩:=List.any_eq_true.1 h1;have RZ:=I.closed i l[i] BW hl e he;have rH:=dN aO i _ BW;simp only[mZ,Bool.and_eq_true,Nat.zero_add] at rH;have hei:=of_decide_eq_true (List.all_eq_true.1 rH.1.1.1 e he);rcases Bool.or_eq_true _ _▸VF with h2 | h2
      ·have:e=c:=by simpa using h2
       rw[this,YX] at RZ;cases RZ
      ·have hm:e∈bs:=by simpa using h2
       have:=ih e (by omega) hm (by omega);rw[this] at RZ;cases RZ
 have main:∀(fuel:Nat) (listed:Array Bool) (a:Act) (w:World),Inv l V R a0 w0 (l++zs).length listed a w→listed.getD c false=false→fuel=cT l.length listed+zs.length→wpAny P .any (l++zs).toArray Q fuel listed a w:=by
  intro fuel;induction fuel with
  | zero=>
    intro listed a w I YX E5;have h0:cT l.length listed=0:=by omega
    have:=fG h0 c hc;rw[YX] at this;cases this
  | succ fuel ih=>
    intro listed a w I YX E5;by_cases h0:cT l.length listed=0
    ·have:=fG h0 c hc;rw[YX] at this;cases this
    ·obtain⟨i0,CF,E6⟩:=nu h0;obtain⟨i,⟨hi,hu⟩,JK⟩:=least (p:=fun i=>i < l.length∧listed.getD i false=false) i0 ⟨CF,E6⟩;have kQ:∀j,j < i→listed.getD j false=true:=fun j hj=>by
      cases hc:listed.getD j false with
      | true=>rfl
      | false=>exact absurd ⟨by omega,hc⟩ (JK j hj)
     have BW:l[i]?=some l[i]:=List.getElem?_eq_getElem hi;have rH:=dN aO i _ BW;simp only[mZ,Bool.and_eq_true,Nat.zero_add] at rH;have lD:i∈Region.ready .any (l++zs).toArray listed:=by
      refine rF (pF BW) ?_ fun j hj=>kQ j (of_decide_eq_true (List.all_eq_true.1 rH.1.1.1 j hj))
      rw[gR (by rw[I.len];simp;omega)];exact hu
     refine⟨(fun hnil=>by rw[hnil] at lD;cases lD),fun j hj=>?_⟩;obtain⟨zN,oj,qz,hall⟩:=mem_ready.1 hj;have FY:j <(l++zs).length:=by
      rcases Nat.lt_or_ge j (l++zs).length with h' | h'
      ·exact h'
      ·rw[Array.getElem?_eq_none (by simpa using h')] at qz;cases qz
     rw[gR (by rw[I.len];exact FY)] at zN;have iG:∀k∈iI oj,listed.getD k false=true:=fun k hk=>by obtain⟨e,he,hb,rfl⟩:=mb.1 hk;exact hall e he hb
     have QG:j < l.length:=by
      rcases Nat.lt_or_ge j l.length with h' | h'
      ·exact h'
      ·exfalso;have Wf:zs[j - l.length]?=some oj:=by
        have:(l++zs)[j]?=some oj:=by simpa using qz
        rw[List.getElem?_append_right (by omega)] at this;exact this
       have LQ:=kZ hz (j - l.length) oj Wf;rw[show l.length+(j - l.length)=j by omega] at LQ;have hc:=ld (L:=l++zs) (fun k=>listed.getD k false=true) (by
        intro k ok hk hd e he
        rcases Nat.lt_or_ge k l.length with JL | JL
        ·rw[List.getElem?_append_left JL] at hk
         exact I.closed k ok hk hd e he
        ·rw[I.tail k JL] at hd;cases hd) j (iI oj) LQ.2 iG i (by omega)
       rw[hu] at hc;cases hc
     have zM:l[j]?=some oj:=by
      have:(l++zs)[j]?=some oj:=by simpa using qz
      rw[List.getElem?_append_left QG] at this;exact this
     have hst:=De hs j oj zM;rw[Nat.zero_add] at hst;have hjb:j∉bs:=by
      intro hjb;have h1:=List.all_eq_true.1 hb j hjb;rw[zM] at h1;obtain⟨e,he,VF⟩:=List.any_eq_true.1 h1;have RZ:=iG e he;have pG:=dN aO j _ zM;simp only[mZ,Bool.and_eq_true,Nat.zero_add] at pG;have hej:=of_decide_eq_true (List.all_eq_true.1 pG.1.1.1 e he);rcases Bool.or_eq_true _ _▸VF with h2 | h2
      ·have:e=c:=by simpa using h2
       rw[this,YX] at RZ;cases RZ
      ·have hm:e∈bs:=by simpa using h2
       have:=aft listed a w I YX (e+1) e (by omega) hm (by omega);rw[this] at RZ;cases RZ
     rcases hst with hst | hst
     ·exact absurd hst hjb
     have NQ:=Inv.reads aO I zM zN iG (tmpsOf oj) (fun _ h=>h);obtain⟨hg,hstep⟩:=hst a.eval w (oV a) I.r NQ;unfold wpOp;rw[qz];show if Region.wanted oj (yielded (l++zs).toArray a.tmps)=true then _ else _
     rw[if_pos (by simp[Region.wanted,hg])];refine .inl ?_;by_cases hjc:j=c
     ·rw[if_pos hjc] at hstep;exact Oy hstep fun C w' h=>hQ C a w' I.defers h
     ·rw[if_neg hjc] at hstep;refine mf hstep fun v w' h=>?_
      refine ih _ _ _ (I.step aO hV JJ zM FY zN iG h.1 h.2) ?_ ?_
      ·rw[gQ _ _ _ (by rw[I.len];exact FY),if_neg (fun e=>hjc e.symm)];exact YX
      ·have:=nt l.length listed j (by rw[I.len];exact FY) QG zN;omega
 refine wp_region_any hm ?_;have h0:R w0 w0.drew:=rG w0;have:=main (l++zs).toArray.size (Array.replicate (l++zs).toArray.size false) a0 w0.drew ⟨h0,rfl,rfl,fun _ _=>rfl,(fun i o d _ h=>by rw[cq] at h;cases h),(fun i o _ h=>by rw[cq] at h;cases h),by simp,fun i _=>cq _ _⟩ (cq _ _) (by
  have:cT l.length (Array.replicate (l++zs).toArray.size false)=l.length:=by
   unfold cT
   rw[List.filter_eq_self.2 (fun i _=>by rw[cq];rfl),List.length_range]
  rw[this];simp)
 exact this
end
end Go.Proofs.YtcneefmaghoejaaGreatDoor
