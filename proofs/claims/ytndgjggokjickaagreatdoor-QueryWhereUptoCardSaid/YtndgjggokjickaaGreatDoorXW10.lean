/- Parts of the proof. -/
import Derived.Test.YtndgjggokjickaaGreatDoorXW9
namespace Go.Proofs.YtndgjggokjickaaGreatDoor
variable{p:Prop}
set_option maxHeartbeats 90000000
set_option maxRecDepth 100000
open Go.ChangeShapes Go.WideShapes Go.ChangeAt Go.RowKit List
set_option linter.unusedVariables false
set_option linter.unusedSimpArgs false
def Dm (items order:List Tr)(over:List aW)(r:List Val):Except Int fC:=match bB over r (items++order)with
 | .error e=> .error e
 | .ok l=> .ok ⟨if items=[] then r else l.take items.length,l.drop items.length⟩
def wK (items order:List Tr)(over:List aW)(rs:List aX):List fC:=rs.filterMap λ r=>uh (Dm items order over r.l)
variable{order:List Tr}{over:List aW}{rs:List aX}{k:Nat}
theorem Wj{items:List Tr}   (h:k < rs.length):wK items order over (rs.take (k+1))=wK items order over (rs.take k)++(match uh (Dm items order over rs[k].l)with | some x=> [x] | none=> []):=by
 have e:rs.take (k+1)=rs.take k++ [rs[k]]:=by rw[take_add_one,getElem?_eq_getElem h];rfl
 unfold wK;rw[e,filterMap_append];congr 1;rw[filterMap_cons,filterMap_nil];cases uh (Dm items order over rs[k].l)<;> rfl
variable{A:Option Addr}{n:Nat}{a:Addr}
theorem MR{c:Nat} (h:eR A c n=some a):∃b,A=some b/\b.block=a.block:=by
 unfold eR at h;split at h
 ·exact⟨a,h,rfl⟩
 ·cases A with
  | none=>cases h
  | some b=>simp only[Option.map_some,Option.some.injEq] at h;exact⟨b,rfl,by rw[<- h,uZ]⟩
variable{w:World}{l:List Val}
theorem bL.drop(h:bL w A l)(n c:Nat)(hc:l.length<=c):bL w (eR A c n) (l.drop n):=
 ⟨h.rv.SV n c hc,λ a ha=>by obtain⟨b,e1,e2⟩:=MR ha;obtain⟨cur,xT⟩:=h.ty b e1;exact⟨cur,e2▸xT⟩⟩
structure MS (w:World) (gp:Nat) (items order:List Tr) (over:List aW) (yi yo:List Ex) (IA:Option Addr) (ic:Nat) (DA:Option Addr) (dc:Nat) (OA:Option Addr):Prop where
 lt:gp < w.heap.size
 c13:w.cell? ⟨gp,13,none⟩=some (.slice IA yi.length ic)
 c15:w.cell? ⟨gp,15,none⟩=some (.slice DA yo.length dc)
 ri:RE w w.heap.size IA yi
 ti:Tr.aO w (Old w) items yi
 ro:RE w w.heap.size DA yo
 eF:Tr.aO w (Old w) order yo
 rc:RC w w.heap.size OA over
variable{w':World}{gp:Nat}{yi yo:List Ex}{IA:Option Addr}{ic:Nat}{DA:Option Addr}{dc:Nat}{OA:Option Addr}
theorem MS.later{items:List Tr}       (h:MS w gp items order over yi yo IA ic DA dc OA)(hb:aj w w'):MS w' gp items order over yi yo IA ic DA dc OA:=
 ⟨Nat.lt_of_lt_of_le h.lt hb.size,(hb.cell (p:=⟨gp,13,none⟩) h.lt).trans h.c13,(hb.cell (p:=⟨gp,15,none⟩) h.lt).trans h.c15,h.ri.later hb,Tr.aO.later h.ti hb,h.ro.later hb,Tr.aO.later h.eF hb,h.rc.later hb⟩
def aiS (gp:Nat)(IA:Option Addr)(ni ic:Nat)(DA:Option Addr)(no dc:Nat)(CA:Option Addr)(cn cc:Nat)(RA:Option Addr)(rn rc:Nat)(E:List Ex)(B0:Nat)(res:Except Int (List Val)):Nat->World->Value->Prop
 | 0,_,v=>v=aw gp
 | 1,_,v=>v=aw gp
 | 2,_,v=>v=ba gp 13
 | 3,_,v=>v=.slice IA ni ic
 | 4,_,v=>v=aw gp
 | 5,_,v=>v=aw gp
 | 6,_,v=>v=ba gp 15
 | 7,_,v=>v=.slice DA no dc
 | 8,w,v=>∃gB:Nat,v=aI gB 2 2/\aB w gB 23 #[.slice IA ni ic,.slice DA no dc]
 | 9,w,v=>∃v7:Value,v=v7/\uF w B0 v7 E
 | 10,_,v=>v=.slice CA cn cc
 | 11,_,v=>v=.slice RA rn rc
 | 12,w,v=>∃x0 x1:Value,v=.tuple #[x0,x1]/\nC res w B0 x0 x1
 | 13,w,v=>∃x0 x1:Value,v=.tuple #[x0,x1]/\nC res w B0 x0 x1
 | 14,w,v=>∃x0 x1:Value,v=x0/\nC res w B0 x0 x1
 | 15,_,v=>v=af (na res)
 | 16,w,v=>∃x0 x1:Value,v=x0/\nC res w B0 x0 x1
 | _,_,_=>False
theorem QK (gp:Nat)(IA:Option Addr)(ni ic:Nat)(DA:Option Addr)(no dc:Nat)(CA:Option Addr)(cn cc:Nat)(RA:Option Addr)(rn rc:Nat)(E:List Ex)(B0:Nat)(res:Except Int (List Val)):∀i w w' v,aiS gp IA ni ic DA no dc CA cn cc RA rn rc E B0 res i w v->ai w w'->aiS gp IA ni ic DA no dc CA cn cc RA rn rc E B0 res i w' v:=by
 intro i w w' v h hl
 match i with
 | 0 | 1 | 2 | 3 | 4 | 5 | 6 | 7 | 10 | 11 | 15=>exact h
 | 8=>obtain⟨gB,h1,f0⟩:=h;exact⟨gB,h1,f0.later hl⟩
 | 9=>obtain⟨v7,h1,f0⟩:=h;exact⟨v7,h1,f0.later hl⟩
 | 12=>exact Zb1
 | 13=>exact Zb1
 | 14=>exact Zb1
 | 16=>exact Zb1
 | n+17=>exact h
def aiT (gp:Nat)(IA:Option Addr)(ni ic:Nat)(XA:Option Addr)(xn xc B0:Nat):Nat->World->Value->Prop
 | 0,_,v=>v=.slice XA xn xc
 | 1,_,v=>v=aw gp
 | 2,_,v=>v=aw gp
 | 3,_,v=>v=ba gp 13
 | 4,_,v=>v=.slice IA ni ic
 | 5,_,v=>v=af ni
 | 6,_,v=>v=aw gp
 | 7,_,v=>v=aw gp
 | 8,_,v=>v=ba gp 13
 | 9,_,v=>v=.slice IA ni ic
 | 10,_,v=>v=af ni
 | 11,_,v=>v=.slice XA ni ni
 | 12,_,v=>v=.slice XA xn xc
 | 13,_,v=>v=aw gp
 | 14,_,v=>v=aw gp
 | 15,_,v=>v=ba gp 13
 | 16,_,v=>v=.slice IA ni ic
 | 17,_,v=>v=af ni
 | 18,_,v=>v=.slice (eR XA xc ni) (xn - ni) (xc - ni)
 | 19,_,v=>v=.agg #[.slice XA ni ni,.slice (eR XA xc ni) (xn - ni) (xc - ni)]
 | 20,w,v=>∃gx:Nat,v=aw gx/\aB w gx 91 #[az,az]/\B0<=gx
 | _,_,_=>False
theorem QM (gp:Nat)(IA:Option Addr)(ni ic:Nat)(XA:Option Addr)(xn xc B0:Nat):∀i w w' v,aiT gp IA ni ic XA xn xc B0 i w v->ai w w'->aiT gp IA ni ic XA xn xc B0 i w' v:=by
 intro i w w' v h hl
 match i with
 | 0 | 1 | 2 | 3 | 4 | 5 | 6 | 7 | 8 | 9 | 10 | 11 | 12 | 13 | 14 | 15 | 16 | 17 | 18 | 19=>exact h
 | 20=>obtain⟨gx,h1,f0,f1⟩:=h;exact⟨gx,h1,f0.later hl,f1⟩
 | n+21=>exact h
def aiU (gb:Nat)(le:Int):Nat->World->Value->Prop
 | 0,_,v=>v=.agg #[az,az,af 0]
 | 1,_,v=>v=aw gb
 | 2,_,v=>v=af le
 | 3,_,v=>v=undef
 | 4,_,v=>v=af le
 | _,_,_=>False
theorem QN (gb:Nat)(le:Int):∀i w w' v,aiU gb le i w v->ai w w'->aiU gb le i w' v:=by exact ZgB
variable{g:Nat}{t:TypeId}
theorem pK{a b c:Value}(h:aB w g t #[a,b,c]):ai w (((w.setCell ⟨g,0,none⟩ a).setCell ⟨g,1,none⟩ b).setCell ⟨g,2,none⟩ c):=by
 have h2:aB (((w.setCell ⟨g,0,none⟩ a).setCell ⟨g,1,none⟩ b).setCell ⟨g,2,none⟩ c) g t #[a,b,c]:=((h.aU 0 a).aU 1 b).aU 2 c;refine⟨rfl,rfl,rfl,by simp,λ k hk=>?_⟩;by_cases e:k=g
 ·subst e;exact(show _=_ from h2).trans (show _=_ from h).symm
 ·rw[Below.heap_setCell _ ⟨g,2,none⟩ _ k e,Below.heap_setCell _ ⟨g,1,none⟩ _ k e,Below.heap_setCell _ ⟨g,0,none⟩ _ k e]
theorem zdA.KaH(h:p:=by exact Kg (w':=((w3.setCell ⟨g6,0,none⟩ (az)).setCell ⟨g6,1,none⟩ (az)).setCell ⟨g6,2,none⟩ (af 0)) (by simp[go_sem,h0,h1,z0,z1,x2,f0,f1,f2];done) ⟨pK VG,rfl⟩):p:=h
theorem zhH.Kb7(h:p:=by
 have apy:=aa (show∀x∈dK,bL W3 x.1.A x.1.l/\bL W3 x.2.A x.2.l/\x.1.l.length<=1000/\x.2.l.length=order.length from λ x hx=>by obtain⟨f1,f2,q3⟩:=aiV.ae x hx;exact⟨f1.later hL,f2.later hL,q3⟩);have apz:=aa (uA.ae.later hL);have PX:=aa afX;have HNX:=aa (show u13.ownBlock≠some ji from λ e=>by have h1:=(zW.ae.lt e).1;have h2:=Q8;have h3:=eB.ae;omega);have HGL:=aa (show w.heap.size<=ji from Nat.le_trans uS.ae.size (by rw[<- eB.ae];exact Q8));clear hL uS zW K9 aiV uA afX Q8 eB HEW;have gx0:=PX.ae.cell 0;have gx1:=PX.ae.cell 1;have gf0:=PX.ae.frozen 0;have gf1:=PX.ae.frozen 1;simp only[Uaa] at gx0 gx1;go_upto_region 23 with fail;clear gx0 gx1 gf0 gf1;have g7:W3.grownBy ((W3.setCell ⟨ji,0,none⟩ (.slice XA gn gn)).setCell ⟨ji,1,none⟩ (.slice (eR XA xc gn) (xn - gn) (xc - gn))) (some ji):=aC (aC (aR (Below.refl _ _)) _ _) _ _;have SU:=aa (show aB ((W3.setCell ⟨ji,0,none⟩ (.slice XA gn gn)).setCell ⟨ji,1,none⟩ (.slice (eR XA xc gn) (xn - gn) (xc - gn))) ji 91 #[.slice XA gn gn,.slice (eR XA xc gn) (xn - gn) (xc - gn)] from(PX.ae.aU 0 _).aU 1 _);generalize (W3.setCell ⟨ji,0,none⟩ (.slice XA gn gn)).setCell ⟨ji,1,none⟩ (.slice (eR XA xc gn) (xn - gn) (xc - gn))=W7 at*;have fw:∀ {A:Option Addr} {l:List Val},bL W3 A l->bL W7 A l:=λ h=>h.keep g7.size λ b cur hc=>g7.block b hc.lt λ e=>by injection e with e;subst e;exact kM hc PX.ae Taa rfl
 have Gr:=aa (dS Ma.ae g7 HGL.ae);have wD:=aa (Mi.ae.grown g7 HNX.ae);have ED:=aa (DX.ae.grown g7 (λ e=>by injection e with e;exact kM DX.ae PX.ae Taa e));have Wl:=aa (show∀x∈dK,bL W7 x.1.A x.1.l/\bL W7 x.2.A x.2.l/\x.1.l.length<=1000/\x.2.l.length=order.length from λ x hx=>by obtain⟨f1,f2,q3⟩:=apy.ae x hx;exact⟨fw f1,fw f2,q3⟩);have adw:=aa (fw apz.ae);have apA:=aa (HF.ae.later Gr.ae);have c13:=apA.ae.c13;rw[<- IH.ae] at c13;have HDL:=aa (show(l.drop gn).length=xn - gn by rw[length_drop,ow.ae]);have qC:=aa (show(l.take gn).length=gn by rw[length_take];have:=xJ.ae;have:=ow.ae;omega);have Xo:=aa (show(l.drop gn).length=order.length by rw[length_drop,HLEN.ae,HYO.ae];omega);clear g7 fw Ma Mi DX apy apz PX;have avx:=HNX;clear HNX;by_cases LE:gn=0
 ·have t3:((gn:Int)==0)=true:=by simp[LE]
  have HIT:=aa (show items=[] from eq_nil_of_length_eq_zero (by rw[HYI.ae,LE]));have HZ:=aa LE;clear LE;go_wp2_with fail;clear c13;refine(Ck r.A r.c r.l W7 ((avu.ae.below Gr.ae).more Gr.ae.size) Qj.ae.1).mono ?_;rintro e w8 ⟨rv,rfl,uQ,b8⟩;obtain⟨RA2,rc2,avy,_,hk2⟩:=Jf uQ;subst avy;have hx8:=SU.ae.later b8;have z0:=hx8.cell 0;have f0:=hx8.frozen 0;simp only[Uaa] at z0;go_upto_region 25 with fail;clear z0 f0;have g9:W7.grownBy (w8.setCell ⟨ji,0,none⟩ (.slice RA2 r.l.length rc2)) (some ji):=aC (aR b8) _ _;have dZ:aB (w8.setCell ⟨ji,0,none⟩ (.slice RA2 r.l.length rc2)) ji 91 #[.slice RA2 r.l.length rc2,.slice (eR XA xc gn) (xn - gn) (xc - gn)]:=hx8.aU 0 _;have hk9:bL (w8.setCell ⟨ji,0,none⟩ (.slice RA2 r.l.length rc2)) RA2 r.l:=hk2.keep (by rw[World.size_setCell];exact Nat.le_refl _) λ b cur hc=>Below.heap_setCell _ ⟨ji,0,none⟩ _ b λ e=>by have e:b=ji:=e;subst e;exact kM hc hx8 Taa rfl
  have Xs:u13.ownBlock≠some ji:=avx.ae;generalize w8.setCell ⟨ji,0,none⟩ (.slice RA2 r.l.length rc2)=W9 at*;have fw:∀ {A:Option Addr} {l:List Val},bL W7 A l->bL W9 A l:=λ h=>h.keep g9.size λ b cur hc=>g9.block b hc.lt λ e=>by injection e with e;subst e;exact kM hc SU.ae Taa rfl
  have Gr:=aa (dS Gr.ae g9 HGL.ae);have wD:=aa (wD.ae.grown g9 Xs);have ED:=aa (ED.ae.grown g9 (λ e=>by injection e with e;exact kM ED.ae SU.ae Taa e));have Wl:=aa (show∀x∈dK,bL W9 x.1.A x.1.l/\bL W9 x.2.A x.2.l/\x.1.l.length<=1000/\x.2.l.length=order.length from λ x hx=>by obtain⟨f1,f2,q3⟩:=Wl.ae x hx;exact⟨fw f1,fw f2,q3⟩);obtain⟨nl,hnl⟩:∃nl:aX×aX,nl=(⟨RA2,r.l,rc2⟩,⟨eR XA xc gn,l.drop gn,xc - gn⟩):=⟨_,rfl⟩;have HNL:=aa (show(eO nl).toArray= #[.slice RA2 r.l.length rc2,.slice (eR XA xc gn) (xn - gn) (xc - gn)] by rw[hnl];unfold eO;dsimp only;rw[HDL.ae]);have PJ:=aa (show MQ nl=⟨if items=[] then r.l else l.take items.length,l.drop items.length⟩ by rw[hnl,if_pos HIT.ae,HYI.ae];rfl);have HN8:=aa (show bL W9 nl.1.A nl.1.l/\bL W9 nl.2.A nl.2.l/\nl.1.l.length<=1000/\nl.2.l.length=order.length by
   rw[hnl]
   exact⟨hk9,(fw adw.ae).drop gn xc Qw.ae,Qj.ae.1,Xo.ae⟩)
  have z0:=dZ.cell 0;have z1:=dZ.cell 1;simp only[Uaa] at z0 z1;clear hnl hk9 dZ hx8 hk2 uQ b8 g9 Xs fw SU adw apA;have bN:=ah W9 (.cells #[.slice RA2 r.l.length rc2,.slice (eR XA xc gn) (xn - gn) (xc - gn)] 91);have hG:=aB.new W9 91 #[.slice RA2 r.l.length rc2,.slice (eR XA xc gn) (xn - gn) (xc - gn)];have mA:=aa (wD.ae.later bN);have Js:=aa (ED.ae.later bN);have Jr:=aa (Below.trans Gr.ae (bN.mono Gr.ae.size));have aiX:=aa (show∀x∈dK,bL _ x.1.A x.1.l/\bL _ x.2.A x.2.l/\x.1.l.length<=1000/\x.2.l.length=order.length from λ x hx=>by obtain⟨f1,f2,q3⟩:=Wl.ae x hx;exact⟨f1.later bN,f2.later bN,q3⟩);have HN1:=aa (HN8.ae.1.later bN);have HN2:=aa (HN8.ae.2.1.later bN);have Gh:=aa hG;have hbase:=Jr.ae.size;have hlk:=zL.ae;clear bN hG wD ED Gr Wl;go_wp2_with (first
   |(at_builtin
     refine aT (f:=eO) rfl (.tmp 133) (.tmp 135) 85 rfl _ 48 Tryz.underlying85 Tl rfl WC nl rfl (by simp[eO,Value.oneCell']) rfl mA.ae W9.heap.size rfl (by rw[HNL.ae];exact Gh.ae) WC WC hbase ?_
     intro v4 w4 o4 g4
     have O4:=aa o4
     have B4:=aa (Js.ae.kr mA.ae Taa g4)
     have RW4:=aa (show∀x∈dK,bL w4 x.1.A x.1.l/\bL w4 x.2.A x.2.l/\x.1.l.length<=1000/\x.2.l.length=order.length from λ x hx=>by obtain⟨f1,f2,q3⟩:=aiX.ae x hx;exact⟨f1.own mA.ae Taa g4,f2.own mA.ae Taa g4,q3⟩)
     have N41:=aa (HN1.ae.own mA.ae Taa g4)
     have N42:=aa (HN2.ae.own mA.ae Taa g4)
     have Ly:=aa (Below.trans Jr.ae (bj mA.ae g4 hbase))
     clear o4 g4))
  exact ZbV
 ·have t3:((gn:Int)==0)=false:=by simp[LE]
  have HIT:=aa (show items≠ [] from λ e=>LE (by rw[<- HYI.ae,e];rfl));clear LE;obtain⟨nl,hnl⟩:∃nl:aX×aX,nl=(⟨XA,l.take gn,gn⟩,⟨eR XA xc gn,l.drop gn,xc - gn⟩):=⟨_,rfl⟩;have HNL:=aa (show(eO nl).toArray= #[.slice XA gn gn,.slice (eR XA xc gn) (xn - gn) (xc - gn)] by rw[hnl];unfold eO;dsimp only;rw[qC.ae,HDL.ae]);have PJ:=aa (show MQ nl=⟨if items=[] then r.l else l.take items.length,l.drop items.length⟩ by rw[hnl,if_neg HIT.ae,HYI.ae];rfl);have HN8:=aa (show bL W7 nl.1.A nl.1.l/\bL W7 nl.2.A nl.2.l/\nl.1.l.length<=1000/\nl.2.l.length=order.length by
   rw[hnl]
   exact⟨adw.ae.take gn,adw.ae.drop gn xc Qw.ae,by show(l.take gn).length<=1000;rw[qC.ae,<- HYI.ae];exact XE.ae HIT.ae,Xo.ae⟩)
  have z0:=SU.ae.cell 0;have z1:=SU.ae.cell 1;simp only[Uaa] at z0 z1;clear hnl;go_upto_region 25 with fail
  clear c13;have bN:=ah W7 (.cells #[.slice XA gn gn,.slice (eR XA xc gn) (xn - gn) (xc - gn)] 91);have hG:=aB.new W7 91 #[.slice XA gn gn,.slice (eR XA xc gn) (xn - gn) (xc - gn)];have mA:=aa (wD.ae.later bN);have Js:=aa (ED.ae.later bN);have Jr:=aa (Below.trans Gr.ae (bN.mono Gr.ae.size));have aiX:=aa (show∀x∈dK,bL _ x.1.A x.1.l/\bL _ x.2.A x.2.l/\x.1.l.length<=1000/\x.2.l.length=order.length from λ x hx=>by obtain⟨f1,f2,q3⟩:=Wl.ae x hx;exact⟨f1.later bN,f2.later bN,q3⟩);have HN1:=aa (HN8.ae.1.later bN);have HN2:=aa (HN8.ae.2.1.later bN);have Gh:=aa hG;have hbase:=Jr.ae.size;have hlk:=zL.ae;clear bN hG wD ED Gr Wl;go_wp2_with (first
   |(at_builtin
     refine aT (f:=eO) rfl (.tmp 133) (.tmp 135) 85 rfl _ 48 Tryz.underlying85 Tl rfl WC nl rfl (by simp[eO,Value.oneCell']) rfl mA.ae W7.heap.size rfl (by rw[HNL.ae];exact Gh.ae) WC WC hbase ?_
     intro v4 w4 o4 g4
     have O4:=aa o4
     have B4:=aa (Js.ae.kr mA.ae Taa g4)
     have RW4:=aa (show∀x∈dK,bL w4 x.1.A x.1.l/\bL w4 x.2.A x.2.l/\x.1.l.length<=1000/\x.2.l.length=order.length from λ x hx=>by obtain⟨f1,f2,q3⟩:=aiX.ae x hx;exact⟨f1.own mA.ae Taa g4,f2.own mA.ae Taa g4,q3⟩)
     have N41:=aa (HN1.ae.own mA.ae Taa g4)
     have N42:=aa (HN2.ae.own mA.ae Taa g4)
     have Ly:=aa (Below.trans Jr.ae (bj mA.ae g4 hbase))
     clear o4 g4))
  exact ZbV):p:=h
theorem zhV.Kcd(h:p:=by
 have hln:l.length=gn+no:=by rw[hlen,length_append,HYI.ae,HYO.ae]
 have HLEN:=aa hln;have xJ:=aa (show gn<=l.length by omega);have HXC:=aa (show gn<=xc by omega);have Qw:=aa hxl;have HEW:=aa (HF.ae.later uS.ae);obtain⟨xn,DV⟩:∃xn,xn=l.length:=⟨_,rfl⟩;rw[<- DV] at xJ ⊢;have ow:=aa DV;obtain⟨B1,Ki⟩:∃B1,B1=w5.heap.size:=⟨_,rfl⟩;have eB:=aa Ki;clear G0 hln hxl DV KK hlen Ki;go_upto_region 22 with fail;refine bA 21 (aiT gp IA gn ic XA xn xc B1) (QM _ _ _ _ _ _ _ _) Va Va Va ?_ ?_
 ·simp only[take_succ_cons,take_zero];refine⟨Z1,Z1,Z1,Z1,ZdY,Z1,Z1,Z1,Z1,ZdY,Z1,Zde,Z1,Z1,Z1,Z1,ZdY,Z1,ZfM,ZdT,?_,trivial⟩
  ·intro ρ w3 hc hL hr;exact aq (v:=aw w3.heap.size) (w':=w3.alloc (.cells #[az,az] 91)) (by simp[go_sem];done) ⟨ah _ _,_,rfl,aB.new _ _ _,by rw[eB.ae];exact hL.size⟩
 intro W3 hL;simp only[Uab];rintro a0 - a1 - a2 - a3 - a4 - a5 - a6 - a7 - a8 - a9 - FH - H7 - a12 - a13 - a14 - a15 - a16 - a17 - a18 - _ rfl a20 ⟨ji,rfl,afX,Q8⟩;open zhH in exact ZfL):p:=h
theorem zf7.Kbx(h:p:=by
 go_wp2_with fail;go_loopw [13,81] (λ lv i wr=>∃(k:Nat) (dK:List (aX×aX)),k<=zs.length/\i=af k/\aF eO 91 2 wr w.heap.size lv dK/\(∀x∈dK,bL wr x.1.A x.1.l/\bL wr x.2.A x.2.l/\x.1.l.length<=1000/\x.2.l.length=order.length)/\dK.map MQ=wK items order over (zs.take k)/\dK.length<=k/\aB wr gb 84 #[af (dY over (items++order) (zs.take k))]/\aj w wr) (λ _ i _=>zs.length - (intOf i).toNat);case atStart=>exact⟨0,[],Nat.zero_le _,rfl,aF.nil,(λ x hx=>by cases hx),rfl,Nat.le_refl _,K7.ae,eB.ae⟩
 case round=>
  clear eB K7;obtain⟨k,dK,hkr,rfl,XG,hRW,hLS,Hx,hGB,hB⟩:=hrel;have JU:=aa XG;have Ep:=aa hRW;have Q7:=aa hLS;have zL:=aa Hx;have wA:=aa hGB;have HB:=aa hB;have hk9:k<=301:=by have:=XF.ae;omega
  clear XG hRW hLS Hx hGB hB;by_cases hlt:k < zs.length
  ·obtain⟨b,off,rfl,kz,hcell,uQ⟩:=(HFN.ae.below HB.ae).at_ hlt;have AZ:=aa (uQ.more HB.ae.size);have Qj:=aa (aio.ae zs[k] (getElem_mem hlt));have avu:=aa (show RV w w.heap.size zs[k].A zs[k].l from by obtain⟨_,_,_,_,_,h⟩:=HFN.ae.at_ hlt;exact h);have K8:=aa (CW (cols:=over) (ts:=items++order) hlt).2;have xZ:=aa (Wj (items:=items) (order:=order) (over:=over) hlt);generalize zs[k]=r at*;generalize dY over (items++order) (zs.take k)=FJ at*;generalize wK items order over (zs.take k)=ls at*;obtain⟨res,hres⟩:∃res,res=bB over r.l (items++order):=⟨_,rfl⟩;rw[<- hres] at K8;have jI:=aa hres.symm;have oH:=aa (HF.ae.later HB.ae);obtain⟨E,hE⟩:∃E,E=yi++yo:=⟨_,rfl⟩;have pW:=aa hE;obtain⟨B0,hB0⟩:∃B0,B0=wr.heap.size:=⟨_,rfl⟩;have Bw:=aa hB0;clear kz uQ hres hE hB0;go_upto_region 20 with fail;clear hcell;refine bA 17 (aiS gp IA gn ic DA no dc OA over.length oc r.A r.l.length r.c E B0 res) (QK _ _ _ _ _ _ _ _ _ _ _ _ _ _ _ _) Va Va Va ?_ ?_
   ·simp only[take_succ_cons,take_zero];refine⟨Z1,Z1,Z1,?_,Z1,Z1,Z1,?_,?_,?_,Z1,Z1,?_,?_,?_,?_,?_,trivial⟩
    ·intro ρ w3 hc hL hr;have h0:_=_:=hr.1;have Kx:=(oH.ae.later hL).c13;exact ZbO
    ·intro ρ w3 hc hL hr;have h0:_=_:=hr.1;have Kx:=(oH.ae.later hL).c15;exact aq (w':=w3) (by simp[go_sem,h0,Kx,<- HNO.ae];done) ⟨ai.refl _,rfl⟩
    ·intro ρ w3 hc hL hr;have h0:_=_:=hr.1;have h1:_=_:=hr.2.1;exact aq (v:=aI w3.heap.size 2 2) (w':=w3.alloc (.cells #[.slice IA gn ic,.slice DA no dc] 23)) Tav ⟨ah _ _,_,rfl,aB.new _ _ _⟩
    ·intro ρ w3 hc hL hr;obtain⟨gB0,h0,cJ⟩:∃gB:Nat,ρ (.tmp 94)=aI gB 2 2/\aB w3 gB 23 #[.slice IA gn ic,.slice DA no dc]:=hr.1;have e1:=hc.func 35;refine bu (f:=35) (args:= #[aI gB0 2 2]) (w':=w3) TaA ?_;refine(uq (some ⟨gB0,0,none⟩) 2 [⟨IA,ic,yi⟩,⟨DA,dc,yo⟩] w3 Tac (by simpa [lr] using UC.ae) ?_).mono ?_
     ·refine⟨gB0,0,rfl,cJ.lt,λ i x hx=>?_⟩
      match i,hx with
      | 0,hx=>simp at hx;subst hx;refine⟨?_,(oH.ae.later hL).ri⟩;exact Zfu
      | 1,hx=>simp at hx;subst hx;refine⟨?_,(oH.ae.later hL).ro⟩;have cb:=cJ.cell 1;simp only[Uaa] at cb;rw[Nat.zero_add,cb,HNO.ae]
      | n+2,hx=>simp at hx
     ·exact ZdR
    ·intro ρ w3 hc hL hr;obtain⟨v70,h0,cJ⟩:∃v7:Value,ρ (.tmp 95)=v7/\uF w3 B0 v7 E:=hr.1;have h1:_=_:=hr.2.1;have h2:_=_:=hr.2.2.1;obtain⟨EA,ec,he,CT⟩:=rL (show aF bF 46 7 w3 B0 v70 E from cJ);rw[pW.ae] at he CT;subst he;have e1:=hc.func 34;refine bu (f:=34) (args:= #[.slice EA (yi++yo).length ec,.slice OA over.length oc,.slice r.A r.l.length r.c]) (w':=w3) (by simp[go_sem,e1,h0,h1,h2];done) ?_;refine(Gk over OA oc r.l r.A r.c (items++order) (yi++yo) EA ec w3 VE.ae (by have:=Qj.ae.1;omega) Qj.ae.2 ia.ae (Tr.all_append (oH.ae.later hL).ti (oH.ae.later hL).eF) Lw.ae CT (oH.ae.later hL).rc (AZ.ae.later hL)).mono ?_;exact ZcI
    ·intro ρ w3 hc hL hr;obtain⟨VK,VL,h0,cJ⟩:∃x0 x1:Value,ρ (.tmp 98)=.tuple #[x0,x1]/\nC res w3 B0 x0 x1:=hr.1;exact ZfZ
    ·intro ρ w3 hc hL hr;obtain⟨VK,VL,h0,cJ⟩:∃x0 x1:Value,ρ (.tmp 85)=.tuple #[x0,x1]/\nC res w3 B0 x0 x1:=hr.1;exact Zc1
    ·intro ρ w3 hc hL hr;obtain⟨VK,VL,h0,cJ⟩:∃x0 x1:Value,ρ (.tmp 85)=.tuple #[x0,x1]/\nC res w3 B0 x0 x1:=hr.1;exact Zf9
    ·intro ρ w3 hc hL hr;obtain⟨VK,VL,h0,cJ⟩:∃x0 x1:Value,ρ (.tmp 99)=x0/\nC res w3 B0 x0 x1:=hr.1;exact Zc1
   intro W5 hL;simp only[Uab];rintro a0 - a1 - a2 - a3 - a4 - a5 - a6 - a7 - a8 - a9 - FH - H7 - a12 - a13 - a14 - _ rfl a16 ⟨ayW,ayX,rfl,afW⟩;simp only[bD,Act.put,Uac];have tq:=aa (Below.trans HB.ae (hL.mono HB.ae.size));have zZ:=aa (wA.ae.later hL);have Qt:=aa (JU.ae.later hL);have apx:=aa (show∀x∈dK,bL W5 x.1.A x.1.l/\bL W5 x.2.A x.2.l/\x.1.l.length<=1000/\x.2.l.length=order.length from λ x hx=>by obtain⟨f1,f2,q3⟩:=Ep.ae x hx;exact⟨f1.later hL,f2.later hL,q3⟩);have avv:=aa (AZ.ae.later hL);have HWB:=aa afW;have HBL:=aa (show w.heap.size<=B0 by rw[Bw.ae];exact HB.ae.size);clear HB wA JU Ep hL afW AZ oH Bw;go_wp2_with fail;refine(vJ gb FJ (na res) _ zZ.ae).mono ?_;rintro e w5 ⟨rfl,Iq,Jb⟩;have Qv:=aa Iq;have uS:=aa (dS tq.ae Jb (by rw[mz.ae];exact Nat.le_refl _));have zW:=aa (Qt.ae.grown Jb (Qt.ae.other zZ.ae Taa));have fw:∀ {A:Option Addr} {l:List Val},bL W5 A l->bL w5 A l:=λ h=>h.keep Jb.size λ b cur hc=>Jb.block b hc.lt λ e=>by injection e with e;subst e;exact kM hc zZ.ae Taa rfl
   have aiV:=aa (show∀x∈dK,bL w5 x.1.A x.1.l/\bL w5 x.2.A x.2.l/\x.1.l.length<=1000/\x.2.l.length=order.length from λ x hx=>by obtain⟨f1,f2,q3⟩:=apx.ae x hx;exact⟨fw f1,fw f2,q3⟩);have Av:=aa (show∀l,res=.ok l->aF aV 44 3 w5 B0 a16 l from λ l hl=>by
    have h1:=HWB.ae
    rw[hl] at h1
    exact h1.2.grown Jb (h1.2.other zZ.ae Taa))
   clear Iq Jb tq zZ Qt apx HWB fw avv
   cases res with
   | error er=>
     have hne:=Gy jI.ae;have t1:(na (.error er)==0)=false:=by show(er==0)=false;simp[hne]
     have qA:=aa K8.ae;have AD:=aa (show uh (Dm items order over r.l)=none by unfold Dm;rw[jI.ae];rfl);clear hne Av;go_wp2_with fail;go_roundw
     case rel=>
      refine⟨k+1,dK,hlt,by go_num,zW.ae,aiV.ae,?_,Nat.le_succ_of_le zL.ae,?_,uS.ae⟩
      ·rw[xZ.ae,AD.ae];simpa using Q7.ae
      ·rw[qA.ae];exact Qv.ae
     case measure=>exact Za0
   | ok l=>have qA:=aa (show dY over (items++order) (zs.take (k+1))=jo FJ 0 from K8.ae);have AD:=aa (show uh (Dm items order over r.l)=some ⟨if items=[] then r.l else l.take items.length,l.drop items.length⟩ by unfold Dm;rw[jI.ae];rfl);have hlen:=CV jI.ae;open zhV in exact Zgg
  ·have fw:k=zs.length:=by omega
   subst fw;have HTT:=aa (show zs.take zs.length=zs from take_length);rw[HTT.ae] at Q7 wA;obtain⟨LA,lc,hlv,_⟩:=JU.ae.reads;subst hlv;go_wp2_with fail;refine IL.ae _ _ ?_;clear IL;refine wp_seq_k λ K3 hK3=>?_
   have CH:=aa hK3;clear hK3;have d0:=wA.ae.cell 0;simp only[getElem?_toArray,getElem?_cons_zero] at d0;obtain⟨le,hle⟩:∃le,le=dY over (items++order) zs:=⟨_,rfl⟩;rw[<- hle] at d0;have adz:=aa hle;clear hle;by_cases LE:le=0
   ·have t1:(le != 0)=false:=by simp[LE]
    have HZ:=aa (show dY over (items++order) zs=0 by rw[<- adz.ae];exact LE);clear LE;go_wp2_with fail;exact CH.ae _ _ (aiP.ae HZ.ae _ _ LA lc dK rfl rfl rfl rfl rfl HB.ae JU.ae Ep.ae Q7.ae zL.ae)
   ·have t1:(le != 0)=true:=by simp[LE]
    have HZ:=aa (show dY over (items++order) zs≠0 by rw[<- adz.ae];exact LE);have fq:aB wr g6 33 #[az,az,af 0]:=G9.ae.later HB.ae;have QJ:=aa fq;have Q3:=aa (show aB wr gb 84 #[af le] by rw[adz.ae];exact wA.ae);clear LE fq;go_upto_region 28 with fail;clear d0;refine bA 4 (aiU gb le) (QN _ _) Va Va Va ?_ ?_
    ·simp only[take_succ_cons,take_zero];refine⟨Zf4,Z1,Zbl,?_,trivial⟩
     ·intro ρ w3 hc hL hr;have h0:_=_:=hr.1;have h1:_=_:=hr.2.1;have VG:=QJ.ae.later hL;open zdA in exact ZbI
    intro W6 hL;simp only[Uab];rintro _ rfl _ rfl _ rfl;simp only[bD,Act.put,Uac];have fq:aB W6 g6 33 #[az,az,af 0]:=QJ.ae.later hL;have bI:w.grownBy W6 (some g6):=aR (Below.trans HB.ae (hL.mono HB.ae.size));go_wp2_with fail;refine HE.ae HZ.ae _ _ rfl rfl ?_ fq bI;rw[<- adz.ae];rfl):p:=h
theorem zib.Kcl(h:p:=by
 obtain⟨gn,hni⟩:∃gn,gn=yi.length:=⟨_,rfl⟩;obtain⟨no,hno⟩:∃no,no=yo.length:=⟨_,rfl⟩;have IH:=aa hni;have HNO:=aa hno;have hyi:=dW Qr.ti;have hyo:=dW Qr.eF;have HYI:=aa (show items.length=gn by rw[hyi,hni]);have HYO:=aa (show order.length=no by rw[hyo,hno]);have UC:=aa (show yi.length+yo.length<=1000000 by omega);have Lw:=aa (show(yi++yo).length<=1599289640356 by rw[length_append];omega);clear hh hE hO Qr Jq Tn hz Nj Gu Tp Qs hX fq hni hno hyi hyo;simp only[ez,fA,Tryz.f11,Option.getD_some];refine wp_seq_k λ K0 hK=>?_
 have DM:=aa hK;clear hK;go_wp2_with fail;refine DM.ae _ _ ?_;clear DM;have b1:=ah w (.cells #[af 0] 84);have k1:=aB.new w 84 #[af 0];have eB:=aa b1;have K7:=aa k1;clear b1 k1;obtain⟨gb,Hq⟩:∃gb,gb=w.heap.size:=⟨_,rfl⟩;have mz:=aa Hq;rw[<- Hq] at K7 ⊢;generalize w.alloc (.cells #[af 0] 84)=W1 at*;open zf7 in exact Zea):p:=h
theorem Wk (w0:World)(gp g3 g6:Nat)(items order:List Tr)(over:List aW)(yi yo:List Ex)(IA:Option Addr)(ic:Nat)(DA:Option Addr)(dc:Nat)(OA:Option Addr)(oc:Nat)(zs:List aX)(EA0:Option Addr)(ec0:Nat)(T:Array Value)(hT:T.size=183)
  (h3:T.getD 3 undef=aw g3) (h6:T.getD 6 undef=aw g6) (h8:T.getD 8 undef=aw gp) (h10:T.getD 10 undef=.slice EA0 zs.length ec0) (h11:T.getD 11 undef=.slice OA over.length oc) (d:List Deferred) (w:World) (Q:Exit->Act->World->Prop)
  (Qr:MS w gp items order over yi yo IA ic DA dc OA) (Jq:Tr.cL (items++order)) (Tn:items.length<=100000) (hz:order.length<=1000000 - 100000) (Nj:over.length<=140737488355328) (Gu:items≠ []->items.length<=1000)
  (Tp:RR w w.heap.size EA0 zs) (Qs:zs.length<=301) (hX:∀r∈zs,r.l.length<=1000/\∀v∈r.l,v.Ok) (fq:aB w g6 33 #[az,az,af 0])
  (hE:dY over (items++order) zs≠0->∀a W,a.defers=d->a.tmps.getD 6 undef=aw g6->a.tmps.getD 7 undef=af (dY over (items++order) zs)->aB W g6 33 #[az,az,af 0]->w.grownBy W (some g6)->Q .ret a W)
  (hO:dY over (items++order) zs=0->∀(T':Array Value) W LA lc (dK:List (aX×aX)),T'.size=183->T'.getD 3 undef=aw g3->T'.getD 6 undef=aw g6->T'.getD 8 undef=aw gp->T'.getD 13 undef=.slice LA dK.length lc->aj w W->aF eO 91 2 W w.heap.size (.slice LA dK.length lc) dK->(∀x∈dK,bL W x.1.A x.1.l/\bL W x.2.A x.2.l/\x.1.l.length<=1000/\x.2.l.length=order.length)->dK.map MQ=wK items order over zs->dK.length<=zs.length->(fA ez 12).wp Tryz.prog Q { tmps:=T',defers:=d } W):
  (fA ez 8).wp Tryz.prog Q { tmps:=T,defers:=d } w:=by
 obtain⟨f,rfl⟩:=ym T hT;have h3:f 3=_:=h3;have h6:f 6=_:=h6;have h8:f 8=_:=h8;have h10:f 10=_:=h10;have h11:f 11=_:=h11;simp only[XN,h3,h6,h8,h10,h11];clear h3 h6 h8 h10 h11;clear h3 h6 h8 h10 h11 hT;have hh:=λ h0 (T':Array Value) W LA lc dK a0 a1 a2 a3 a4 a5 a6 a7 a8 a9=>hO h0 T' W LA lc dK a0 a1 a2 a3 a4 a5 a6 a7 a8 a9
 simp only[ez,fA,Tryz.f11,Option.getD_some] at hh;have aiP:=aa hh;open zib in exact ZgT
structure Q9 (t:Tr) (s:dy) (r:Except Int (Tr×Int×dy)):Prop where
 err:∀e,r=.error e->e≠0
 ok:∀y k s',r=.ok (y,k,s')->t.ok->y.ok
 len:∀y k s',r=.ok (y,k,s')->s'.aL.length+s'.aJ.length<=s.aL.length+s.aJ.length+2*t.nodes
 aok:∀y k s',r=.ok (y,k,s')->t.ok->Tr.cL s.aJ->Tr.cL s'.aJ
theorem lG (g:Bool)(aL:List Tr)(cols:List aW)(t:Tr)(s:dy):Q9 t s (oV g aL cols t s):=by
 unfold oV;split
 ·split
  ·rename_i h1 h2;exact ZeB
  ·refine⟨λ e h=> Tad,λ y k s' h ht=>?_,λ y k s' h=>?_,λ y k s' h _ ha=>?_⟩;all_goals (injection h with h;injection h with h1 h2;injection h2 with h2 h3)
   ·rw[<- h1];exact ht
   ·rw[<- h3];omega
   ·rw[<- h3];exact ha
 ·have hf:=iG aL cols t s
  cases hr:Tr.turn aL cols t s with
  | error e=>dsimp only;exact⟨λ e2 h=>by injection h with h;rw[<- h];exact hf.err _ hr,λ _ _ _ h=> Tad,λ _ _ _ h=> Tad,λ _ _ _ h=> Tad⟩
  | ok p=>
    obtain⟨y,s'⟩:=p;dsimp only;split
    ·rename_i h2;exact ZeB
    ·refine⟨λ e h=> Tad,λ y2 k s2 h ht=>?_,λ y2 k s2 h=>?_,λ y2 k s2 h ht ha=>?_⟩;all_goals (injection h with h;injection h with h1 h2;injection h2 with h2 h3)
     ·rw[<- h1];exact hf.ok _ _ hr ht
     ·rw[<- h3];exact hf.len _ _ hr
     ·rw[<- h3];exact hf.aok _ _ hr ht ha
def tM (l:List Tr):Except Int (List Tr×dy)->Except Int (List Tr×dy)
 | .error e=> .error e
 | .ok (ys,s)=> .ok (l++ys,s)
theorem GN (x:Except Int (List Tr×dy)):tM [] x=x:=by exact ZgV
theorem Dn (l:List Tr)(y:Tr)(x:Except Int (List Tr×dy)):tM l (match x with | .error e=> .error e | .ok (ys,s)=> .ok (y::ys,s))=tM (l++ [y]) x:=by
 cases x with
 | error e=>rfl
 | ok p=>obtain⟨ys,s⟩:=p;show Except.ok (l++y::ys,s)=Except.ok ((l++ [y])++ys,s);rw[append_assoc];rfl
variable{ts:List Tr}
theorem uJ(h:k < ts.length):Tr.aQ (ts.drop k)=ts[k].nodes+Tr.aQ (ts.drop (k+1)):=by rw[drop_eq_getElem_cons h,fW,fW,map_cons,sum_cons]
def ql (a:Act)(d:List Deferred)(g4 g5:Nat):Prop:=a.defers=d/\a.tmps.getD 4 undef=aw g4/\a.tmps.getD 5 undef=aw g5
def wL (w0:World)(g4 g5 D:Nat)(w:World):Prop:=aj w0 w/\w0.heap.size<=g4/\w0.heap.size<=g5/\g4≠g5/\g4≠D/\g5≠D/\aB w g4 72 #[.pointer none]/\aB w g5 34 #[af 0]/\w.heap[D]?=some (.deferred (some []))
def jk (w:World)(g4 g5:Nat)(er:Int):World:=(w.setCell ⟨g4,0,none⟩ (.pointer none)).setCell ⟨g5,0,none⟩ (af er)
def ju (w:World)(g4 g5 gp:Nat):World:=(w.setCell ⟨g4,0,none⟩ (aw gp)).setCell ⟨g5,0,none⟩ (af 0)
variable{w0:World}{g2 g4 g5 D:Nat}{qc:Array Value}{R:Nat->Value}
theorem PlF.R5(h:PlF w0 gp g2 qc g4 g5 D R w):wL w0 g4 g5 D w:=⟨h.base,h.new.1,h.new.2.1,h.new.2.2.1,h.new.2.2.2.1,h.new.2.2.2.2,h.z4,h.z5,h.dd⟩
theorem wL.later(h:wL w0 g4 g5 D w)(hb:aj w w'):wL w0 g4 g5 D w':=by
 obtain⟨h1,h2,h3,h4,h5,h6,h7,h8,h9⟩:=h;refine⟨Below.trans h1 (hb.mono h1.size),h2,h3,h4,h5,h6,h7.later hb,h8.later hb,(hb.block D ?_).trans h9⟩;rcases Nat.lt_or_ge D w.heap.size with h | h
 ·exact h
 ·rw[Array.getElem?_eq_none h] at h9;cases h9
variable{S:Nat->Prop}{y:Ex}
theorem mm{t:Tr} (h:Tr.aO w S [t] [y]):t.at_ w S y:=by unfold Tr.aO at h;obtain⟨y2,ys,e,h1,_⟩:=h;injection e with e _;rw[e];exact h1
variable{c:PC}{r:Rest}{u v u' v':Value}{ya:List Ex}{s:dy}{hd:List aW}{yh:List Ex}{th:List Tr}
theorem cP.err{ti eF:List Tr}(h:cP c w0 gp g2 qc g4 g5 D r w u v ya s hd yi yh yo ti th eF)(hs:gL gp w u v w' u' v'):wL w0 g4 g5 D w':=by refine⟨Below.trans h.f.base (hs.low h.f.base.size h.f.low (λ q hq=>(h.f.rows 0 WC q hq).1) (λ q hq=>(h.f.rows 1 WC q hq).1)),h.f.new.1,h.f.new.2.1,h.f.new.2.2.1,h.f.new.2.2.2.1,h.f.new.2.2.2.2,hs.blk h.f.z4 (h.kp2 h.f.k4),hs.blk h.f.z5 (h.kp2 h.f.k5),(hs.block D (h.kp2 h.f.kD)).trans h.f.dd⟩
theorem zbU.Kal(h:p:=by go_wp2_with fail;exact HE.ae er _ _ (aio.ae.symm.trans ow.ae) nE.ae ⟨rfl,rfl,rfl⟩ HW.ae):p:=h
theorem zdt.KaE(h:p:=by simp[go_sem,h,z0,z1,x2,x3,x4,x5,x6,bF]):p:=h
theorem zhP.Kcb(h:p:=by have R7:=aa (sM.ae.aon (by rw[VF.ae] at DY ⊢;exact DY) (mm GQ.ae));exact Zcm):p:=h
theorem zfn.Kbf(h:p:=by
 obtain⟨RA,rc,uQ,_⟩:=sM.ae.o5.reads;have zU:=aa sM.ae.o5;have HL7:=aa (show yh.length<=1000000 by have:=HFN.ae;have:=qC.ae;have:=G9.ae;omega);have zW:=aa VG;clear VG;dsimp only at uQ zU;subst uQ;obtain⟨r1,hr1⟩:∃r1:Rest,r1= { r with o:=Value.slice RA yh.length rc }:=⟨_,rfl⟩;have VF:=aa hr1;rw[<- hr1] at sM GQ;clear hr1;go_wp2_with fail;refine Gv (gp:=gp) (k:=15) (B:=w0.heap.size) (gx:=gY) (cs:=c.cells r1 u' v') (r:=Value.slice RA yh.length rc) (ys:=yh) (y:=KK) (s0:=6) (s1:=28) (d0:=239) (d1:=240) (d2:=241) (d3:=242) (d4:=243) (d5:=244) (d6:=245) (d7:=246) (d8:=247) (d10:=248) (d11:=249) Va Va Va rfl rfl ?_ ?_ ?_ ?_ ?_ ?_ ?_ ?_ ?_ ?_ ?_ ?_ ?_ ?_ sM.ae.f.base.size sM.ae.blk zU.ae HL7.ae ND.ae Ts.ae.1 Ts.ae.2 ?_
 ·exact Zd8
 ·exact Zd8
 ·exact Zd8
 ·intro ρ w h hc;simp[go_sem,h,hc]
 ·intro ρ w h rC;open zdt in exact Zbu
 ·exact Zd8
 ·intro ρ w hc;simp[go_sem,hc.const,bF,wu]
 ·exact Zef
 ·exact ZgA
 ·rfl
 ·exact Zd8
 ·exact Zd8
 ·intro ρ w A1 n1 c1 h1 h2 hc hf;simp[go_sem,h1,h2,hc,hf]
 ·rw[VF.ae];rfl
 open zhP in exact Zge):p:=h
theorem zbo.Kaf(h:p:=by
 clear k1;go_wp2_with fail;clear z0 z1 x2 x3 x4 x5 x6;refine(CN c w0 gp { r with o:=rv } t y s1 u1 v1 Jl W2 ia.ae kx.ae wW.ae tN.ae.ps TaO).mono ?_;intro e w6 hp;have uT:=aa (lG c.aK c.aL c.cols t s1)
 cases hr:oV c.aK c.aL c.cols t s1 with
 | error er=>
   have jU:=uO.ae;rw[hr] at hp uT jU;obtain⟨KK,ty,u',v',rfl,hst⟩:=hp;have her:=uT.ae.err _ rfl;have wX:X=.error er:=by rw[uA.ae,jU];rfl
   have ow:=aa wX;have nE:=aa her;have t1:(er != 0)=true:=by simp[her]
   have bg:=ah w6 (.cells (ay KK) 46);have HW:=aa ((tN.ae.err hst).later bg);clear wX hr her hst jU uT uO tN bg;go_upto_region 50 with fail;generalize w6.alloc (.cells (ay KK) 46)=WD at*;obtain⟨_,_,_,uK,_,_,b4,b5,_⟩:=HW.ae;open zbU in exact ZaC
 | ok p=>
   obtain⟨t2,ty,s2⟩:=p;have jU:=uO.ae;rw[hr] at hp uT jU;obtain⟨KK,u',v',I6,rfl,uz,pH,hst⟩:=hp;have rQ:=tN.ae.call hst pH;have Wo:=tN.ae.tree hst pH uz;have bg:=ah w6 (.cells (ay KK) 46);have XO:=aB.new w6 46 (ay KK);have sM:=aa (rQ.later bg);have GQ:=aa ((CQ.later (w0:=w0) (gp:=gp) (R:=PR u' v' { r with o:=rv }) bg).trees (Tr.fO Wo));have Ts:=aa (show w6.heap.size≠gp/\rv.ownBlock≠some w6.heap.size from⟨by have:=rQ.f.lt;omega,λ e=>by have:=(rQ.f.rows 5 WC _ e).2.1;omega⟩);have Dp:=aa (uT.ae.len _ _ _ rfl);have EJ:=aa (show X=tM (eF++ [t2]) (eu c.aK c.aL c.cols (q.ord.drop (k+1)) s2) by
    rw[uA.ae,jU]
    exact Dn eF t2 _)
   have VG:=rQ.t5.length;clear hr jU hst pH uz rQ Wo bg uT uO uA tN;go_upto_region 50 with fail;open zfn in exact Zc8):p:=h
theorem zgD.KbI(h:p:=by
 rw[hn,<- fq] at z6;clear hE Qr Jq Tn hz Nj Gu Tp Qs hX hP hR HX hn fq;simp only[bJ,fA,Tryz.f28,Option.getD_some];go_wp2_with fail;clear z6;go_loopw [224] (λ i wr=>∃(k:Nat) (rv u1 v1:Value) (Jl yh:List Ex) (s1:dy) (eF:List Tr),k<=zs.length/\i=af k/\cP c w0 gp g2 (eI q L) g4 g5 D { r with o:=rv } wr u1 v1 Jl s1 hd yi Kx yh ti th eF/\X=tM eF (eu c.aK c.aL c.cols (q.ord.drop k) s1)/\s1.aL.length+s1.aJ.length+2*Tr.aQ ((q.ord.map (·.1)).drop k)<=1000000/\eF.length=k) (λ i _=>zs.length - (intOf i).toNat);case atStart=>exact⟨0,r.o,u,v,ya,[],s,[],Nat.zero_le _,rfl,HP.ae,by rw[drop_zero,GN];exact aio.ae,by rw[drop_zero];exact XF.ae,rfl⟩
 case round=>
  clear HP;obtain⟨k,rv,u1,v1,Jl,yh,s1,eF,hk,rfl,hP,Tq,Qs,Tc⟩:=hrel;have uA:=aa Tq;have xZ:=aa Qs;have HP:=aa hP;have qC:=aa Tc;clear Tq Qs hP Tc;by_cases hlt:k < zs.length
  ·have fI:k < q.ord.length:=by rw[<- G9.ae];exact hlt
   obtain⟨b,off,hA,Cg,hcell⟩:∃b off,L.o.A=some ⟨b,off,none⟩/\b < w0.heap.size/\cw w0 b (off+k*8) zs[k].1/\w0.cell? ⟨b,off+k*8+7,none⟩=some zs[k].2:=by exact Zg9
   have hb8:zs[k].2=.bool (q.ord[k]'fI).2:=by have h1:=congrArg (λ l=>l[k]?) VE.ae;simp only[getElem?_map,getElem?_eq_getElem hlt,getElem?_eq_getElem fI,Option.map_some] at h1;injection h1
   have rI:(q.ord[k]'fI).1.at_ w0 (Old w0) zs[k].1:=by
    have hl2:k <((q.ord.map λ y=>(y.1,Value.bool y.2)).map (·.1)).length:=by simpa using fI
    obtain⟨KK,h1,h2⟩:=pG hl2 XE.ae;exact Ze6
   have fX:(q.ord[k]'fI).1.ok:=dM.1 HIL.ae _ (mem_map_of_mem (getElem_mem fI));have Z8:Tr.aQ ((q.ord.map (·.1)).drop k)=(q.ord[k]'fI).1.nodes+Tr.aQ ((q.ord.map (·.1)).drop (k+1)):=by have h1:=uJ (ts:=q.ord.map (·.1)) (k:=k) (by simpa using fI);simpa using h1
   have hdr:eu c.aK c.aL c.cols (q.ord.drop k) s1=(match oV c.aK c.aL c.cols (q.ord[k]'fI).1 s1 with
     | .error e=> .error e
     | .ok (KK,_,s')=>match eu c.aK c.aL c.cols (q.ord.drop (k+1)) s' with
       | .error e=> .error e
       | .ok (ys,Lf)=> .ok (KK::ys,Lf)):=by
    rw[drop_eq_getElem_cons fI];obtain⟨t,bb⟩:=q.ord[k];rfl
   rw[hb8] at hcell;generalize zs[k].1=y at*;generalize (q.ord[k]'fI).2=b8 at*;generalize (q.ord[k]'fI).1=t at*;obtain⟨hex,h7⟩:=hcell;have iE:=hex.keep (λ o=>HP.ae.f.base.cell (p:=⟨b,o,none⟩) Cg);have h72:=(HP.ae.f.base.cell (p:=⟨b,off+k*8+7,none⟩) Cg).trans h7;unfold cw at iE;have wW:=aa rI;have kx:=aa fX;have HND:=aa Z8;have uO:=aa hdr;have HAA:=aa hA;rw[hA];clear hex h7 rI fX Z8 hdr hA Cg hb8 fI;go_upto_region 49 with fail;clear iE h72;have k1:=aB.new wr 117 #[ag y.op,ag y.v.k,af y.v.n,.string y.v.s,.string y.name,af y.width,.slice y.A y.n y.c,.bool b8];have Mp:=ah wr (.cells #[ag y.op,ag y.v.k,af y.v.n,.string y.v.s,.string y.name,af y.width,.slice y.A y.n y.c,.bool b8] 117);generalize wr.alloc (.cells #[ag y.op,ag y.v.k,af y.v.n,.string y.v.s,.string y.name,af y.width,.slice y.A y.n y.c,.bool b8] 117)=W2 at*;have tN:=aa (HP.ae.later Mp);generalize wr.heap.size=g12 at*;clear HP Mp;open zbo in exact Zav
  ·have GH:k=zs.length:=by omega
   have hXo:X=.ok (eF,s1):=by rw[uA.ae,GH,G9.ae,drop_length];show Except.ok (eF++ [],s1)=_;rw[append_nil]
   have R8:=aa hXo;clear hXo;subst GH;have HW:=aa HP.ae.f.R5;obtain⟨_,_,_,uK,_,_,b4,b5,_⟩:=HW.ae;have c4:=b4.cell 0;have c5:=(b5.far (p:=⟨g4,0,none⟩) (Ne.symm uK) (aw gp)).cell 0;have f4:=b4.frozen 0;have f5:=(b5.far (p:=⟨g4,0,none⟩) (Ne.symm uK) (aw gp)).frozen 0;simp only[getElem?_toArray,getElem?_cons_zero] at c4 c5;clear b4 b5 uK;go_wp2_with fail;exact HF.ae _ _ _ u1 v1 Jl s1 yh eF (aio.ae.symm.trans R8.ae) ⟨rfl,rfl,rfl⟩ HP.ae):p:=h
theorem zic.Kcl(h:p:=by have HP:=aa hP;have hR:=hP.f.z2;unfold eI at hR;open zgD in exact Zep):p:=h
theorem zeJ.Ka1(h:p:=by
 obtain⟨hn,zs,hz,Nj,Gu⟩:=XS;rw[length_map] at hn;have fq:zs.length=q.ord.length:=by have:=congrArg List.length Nj;simpa using this
 have HX:=aa (show∃X,X=eu c.aK c.aL c.cols q.ord s from⟨_,rfl⟩);obtain⟨X,hX⟩:=HX.ae;open zic in exact ZgT):p:=h
theorem Wm (c:PC)(w0:World)(gp g2 g4 g5 D:Nat)(q:Qy)(L:QL)(r:Rest)(u v:Value)(ya:List Ex)(s:dy)(hd:List aW)(yi Kx:List Ex)(ti th:List Tr)(T:Array Value)(hT:T.size=252)
  (h2:T.getD 2 undef=aw g2) (h4:T.getD 4 undef=aw g4) (h5:T.getD 5 undef=aw g5) (h6:T.getD 6 undef=aw gp) (d:List Deferred) (w:World) (Q:Exit->Act->World->Prop)
  (Jq:c.Ok w0) (Tn:Tr.cL (q.ord.map (·.1))) (XS:eP w0 (q.ord.map λ y=>(y.1,.bool y.2)) L.o.A L.o.n) (Tp:q.ord.length<=1000000) (Qs:s.aL.length+s.aJ.length+2*Tr.aQ (q.ord.map (·.1))<=1000000)
  (hP:cP c w0 gp g2 (eI q L) g4 g5 D r w u v ya s hd yi Kx [] ti th [])
  (hE:∀er a W,eu c.aK c.aL c.cols q.ord s=.error er->er≠0->ql a d g4 g5->wL w0 g4 g5 D W->Q .ret a (jk W g4 g5 er))
  (Qr:∀a W r' u' v' qf s' yh eF,eu c.aK c.aL c.cols q.ord s=.ok (eF,s')->ql a d g4 g5->cP c w0 gp g2 (eI q L) g4 g5 D r' W u' v' qf s' hd yi Kx yh ti th eF->Q .ret a (ju W g4 g5 gp)):
  (fA bJ 9).wp Tryz.prog Q { tmps:=T,defers:=d } w:=by
 open zeJ in exact Zcx
variable{x x':Except Int (List Tr×dy)}
theorem QO(l:List Tr)(y:Tr) (h:x'=(match x with | .error e=> .error e | .ok (ys,s)=> .ok (y::ys,s))):tM l x'=tM (l++ [y]) x:=by rw[h];exact Dn l y x
theorem zbV.Kal(h:p:=by go_wp2_with fail;exact HE.ae er _ _ (.inl (gX.ae.symm.trans ow.ae)) nE.ae ⟨rfl,rfl,rfl⟩ HW2.ae):p:=h
theorem zbW.Kal(h:p:=by go_wp2_with fail;exact HE.ae 40 _ _ (.inl (gX.ae.symm.trans ow.ae)) Taa ⟨rfl,rfl,rfl⟩ HW2.ae):p:=h
theorem zdu.KaE(h:p:=by simp[go_sem,h,z0,z1,x2,x3,x4,x5,x6,bF]):p:=h
theorem zfl.Kbe(h:p:=by go_upto_region 41 with fail;generalize w6.alloc (.cells (ay KK) 46)=WD at*;go_wp2_with fail;refine(tX ty er WD).mono ?_;rintro e uj ⟨rfl,Jw⟩;rw[BA nE.ae];have HW2:=aa (HW.ae.later Jw);clear HW Jw;obtain⟨_,_,_,uK,_,_,b4,b5,_⟩:=HW2.ae;open zbV in exact ZaC):p:=h
theorem zhQ.Kcb(h:p:=by have R7:=aa (sM.ae.aom (by rw[VF.ae] at DY ⊢;exact DY) (mm GQ.ae));exact Zcm):p:=h
theorem zfo.Kbf(h:p:=by
 have zW:=aa VG;clear VG;go_wp2_with fail;refine(tX ty 0 WD).mono ?_;rintro e uj ⟨rfl,Jw⟩;rw[FE]
 cases hgo:cg ty 1 with
 | false=>
   rw[if_pos rfl];have ow:=aa (show X=.error 40 by
    rw[uA.ae,II.ae]
    show tM eF (if cg ty 1=false then _ else _)=_
    rw[if_pos hgo]
    rfl)
   have HW2:=aa (sM.ae.f.R5.later Jw);clear Jw sM GQ ND hgo II;obtain⟨_,_,_,uK,_,_,b4,b5,_⟩:=HW2.ae;open zbW in exact ZaC
 | true=>
   rw[if_neg Taa];have EJ:=aa (show X=tM (eF++ [t2]) (dA c.aK c.aL c.cols (q.fq.drop (k+1)) s2) by
    rw[uA.ae,II.ae]
    refine QO eF t2 ?_
    show(if cg ty 1=false then _ else _)=_
    rw[if_neg (by rw[hgo];decide)])
   have HPA:=aa (sM.ae.later Jw);have apF:=aa ((CQ.later (w0:=w0) (gp:=gp) (R:=PR u' v' { r with j:=rv }) Jw).trees GQ.ae);have HYA:=aa (ND.ae.later Jw);clear sM GQ ND Jw uA II hgo;have sM:=HPA;have GQ:=apF;have ND:=HYA;clear HPA apF HYA;obtain⟨RA,rc,uQ,_⟩:=sM.ae.o4.reads;have zU:=aa sM.ae.o4;have HL7:=aa (show yh.length<=1000000 by have:=HFN.ae;have:=qC.ae;have:=G9.ae;have:=zW.ae;omega);dsimp only at uQ zU;subst uQ;obtain⟨r1,hr1⟩:∃r1:Rest,r1= { r with j:=Value.slice RA yh.length rc }:=⟨_,rfl⟩;have VF:=aa hr1;rw[<- hr1] at sM GQ;clear hr1;go_wp2_with fail;refine Gv (gp:=gp) (k:=14) (B:=w0.heap.size) (gx:=gY) (cs:=c.cells r1 u' v') (r:=Value.slice RA yh.length rc) (ys:=yh) (y:=KK) (s0:=6) (s1:=22) (d0:=209) (d1:=210) (d2:=211) (d3:=212) (d4:=213) (d5:=214) (d6:=215) (d7:=216) (d8:=217) (d10:=218) (d11:=219) Va Va Va rfl rfl ?_ ?_ ?_ ?_ ?_ ?_ ?_ ?_ ?_ ?_ ?_ ?_ ?_ ?_ sM.ae.f.base.size sM.ae.blk zU.ae HL7.ae ND.ae Ts.ae.1 Ts.ae.2 ?_
   ·exact Zd8
   ·exact Zd8
   ·exact Zd8
   ·intro ρ w h hc;simp[go_sem,h,hc]
   ·intro ρ w h rC;open zdu in exact Zbu
   ·exact Zd8
   ·intro ρ w hc;simp[go_sem,hc.const,bF,wu]
   ·exact Zef
   ·exact ZgA
   ·rfl
   ·exact Zd8
   ·exact Zd8
   ·intro ρ w A1 n1 c1 h1 h2 hc hf;simp[go_sem,h1,h2,hc,hf]
   ·rw[VF.ae];rfl
   open zhQ in exact Zge):p:=h
theorem zbp.Kaf(h:p:=by
 clear k1;go_wp2_with fail;clear z0 z1 x2 x3 x4 x5 x6;refine(CN c w0 gp { r with j:=rv } t y s1 u1 v1 Jl W2 IH.ae kx.ae wW.ae tN.ae.ps TaO).mono ?_;intro e w6 hp;have uT:=aa (lG c.aK c.aL c.cols t s1)
 cases hr:oV c.aK c.aL c.cols t s1 with
 | error er=>
   open zfl in exact Zc7
 | ok p=>obtain⟨t2,ty,s2⟩:=p;have jU:=uO.ae;rw[hr] at hp uT jU;obtain⟨KK,u',v',I6,rfl,uz,pH,hst⟩:=hp;have rQ:=tN.ae.call hst pH;have Wo:=tN.ae.tree hst pH uz;have bg:=ah w6 (.cells (ay KK) 46);have XO:=aB.new w6 46 (ay KK);have sM:=aa (rQ.later bg);have GQ:=aa ((CQ.later (w0:=w0) (gp:=gp) (R:=PR u' v' { r with j:=rv }) bg).trees (Tr.fO Wo));have Ts:=aa (show w6.heap.size≠gp/\rv.ownBlock≠some w6.heap.size from⟨by have:=rQ.f.lt;omega,λ e=>by have:=(rQ.f.rows 4 WC _ e).2.1;omega⟩);have Dp:=aa (uT.ae.len _ _ _ rfl);have II:=aa jU;have VG:=rQ.t4.length;clear hr jU hst pH uz rQ Wo bg uT uO tN;go_upto_region 41 with fail;open zfo in exact Zc8):p:=h
theorem zgx.KbH(h:p:=by clear HP Mp;open zbp in exact Zav):p:=h
theorem zcY.Kax(h:p:=by
 have HP:=aa Gu;have b2:=Gu.f.z2;unfold eI at b2;have c5:=b2.cell 5;simp only[Uaa] at c5;rw[hn,<- Nj] at c5;clear hE hF ih q1 q2 q3 q4 q5 Au Tn C3 hz Gu b2 hn Nj;simp only[bJ,fA,Tryz.f28,Option.getD_some];go_wp2_with fail;clear c5;go_loopw [192] (λ i wr=>∃(k:Nat) (rv u1 v1:Value) (Jl yh:List Ex) (s1:dy) (eF:List Tr),k<=zs.length/\i=af k/\cP c w0 gp g2 (eI q L) g4 g5 D { r with j:=rv } wr u1 v1 Jl s1 hd yi yh [] ti eF []/\X=tM eF (dA c.aK c.aL c.cols (q.fq.drop k) s1)/\s1.aL.length+s1.aJ.length+2*Tr.aQ (q.fq.drop k)+2*Tr.aQ (q.ord.map (·.1))<=1000000/\eF.length=k) (λ i _=>zs.length - (intOf i).toNat);case atStart=>exact⟨0,r.j,u,v,ya,[],s,[],Nat.zero_le _,rfl,HP.ae,by rw[drop_zero,GN];exact gX.ae,by rw[drop_zero];exact Ag.ae,rfl⟩
 case round=>
  rename_i K hK;clear HP;obtain⟨k,rv,u1,v1,Jl,yh,s1,eF,hk,rfl,Gu,Tq,C3,Tc⟩:=hrel;have uA:=aa Tq;have xZ:=aa C3;have HP:=aa Gu;have qC:=aa Tc;clear Tq C3 Gu Tc;by_cases hlt:k < zs.length
  ·have fI:k < q.fq.length:=by rw[<- G9.ae];exact hlt
   obtain⟨b,off,hA,Cg,hex⟩:∃b off,L.h.A=some ⟨b,off,none⟩/\b < w0.heap.size/\cw w0 b (off+k*7) zs[k]:=by exact Zg9
   have rI:(q.fq[k]'fI).at_ w0 (Old w0) zs[k]:=by obtain⟨KK,h1,h2⟩:=pG fI oy.ae;rw[getElem?_eq_getElem hlt] at h1;injection h1 with h1;rw[h1];exact h2
   have fX:(q.fq[k]'fI).ok:=dM.1 Q1.ae _ (getElem_mem fI);have Z8:Tr.aQ (q.fq.drop k)=(q.fq[k]'fI).nodes+Tr.aQ (q.fq.drop (k+1)):=uJ fI;have hdr:dA c.aK c.aL c.cols (q.fq.drop k) s1=(match oV c.aK c.aL c.cols (q.fq[k]'fI) s1 with
     | .error e=> .error e
     | .ok (KK,k2,s')=>if cg k2 1=false then .error 40 else match dA c.aK c.aL c.cols (q.fq.drop (k+1)) s' with
       | .error e=> .error e
       | .ok (ys,Lf)=> .ok (KK::ys,Lf)):=by
    rw[drop_eq_getElem_cons fI];rfl
   generalize zs[k]=y at*;generalize (q.fq[k]'fI)=t at*;have iE:=hex.keep (λ o=>HP.ae.f.base.cell (p:=⟨b,o,none⟩) Cg);unfold cw at iE;have wW:=aa rI;have kx:=aa fX;have HND:=aa Z8;have uO:=aa hdr;have HAA:=aa hA;rw[hA];clear hex rI fX Z8 hdr hA Cg fI;go_upto_region 40 with fail;open zgx in exact Zeo
  ·have GH:k=zs.length:=by omega
   have R8:=aa (show X=.ok (eF,s1) by
    rw[uA.ae,GH,G9.ae,drop_length]
    show Except.ok (eF++ [],s1)=_
    rw[append_nil])
   subst GH
   have key:∀T:Array Value,T.size=252->T.getD 2 undef=aw g2->T.getD 4 undef=aw g4->T.getD 5 undef=aw g5->T.getD 6 undef=aw gp->(fA bJ 9).wp Tryz.prog Q { tmps:=T,defers:=d } wr:=λ T hT h2 h4 h5 h6=>
    Wm c w0 gp g2 g4 g5 D q L { r with j:=rv } u1 v1 Jl s1 hd yi yh ti eF T hT h2 h4 h5 h6 d wr Q IH.ae Q3.ae Q4.ae F2.ae (by have:=xZ.ae;omega) HP.ae
     (λ er a W he hne ha hw=>HE.ae er a W (.inr ⟨eF,s1,gX.ae.symm.trans R8.ae,he⟩) hne ha hw)
     (λ a W r' u' v' qf s' yo Kx he ha hp=>HF.ae a W r' u' v' qf s1 s' yh yo eF Kx (gX.ae.symm.trans R8.ae) he ha hp)
   exact Zca):p:=h
theorem zeK.Ka1(h:p:=by obtain⟨hn,zs,q5,Au⟩:=hih;have Nj:zs.length=q.fq.length:=Au.length;obtain⟨X,hz⟩:∃X,X=dA c.aK c.aL c.cols q.fq s:=⟨_,rfl⟩;have HE:=aa hE;open zcY in exact Zbb):p:=h
theorem QP (c:PC)(w0:World)(gp g2 g4 g5 D:Nat)(q:Qy)(L:QL)(r:Rest)(u v:Value)(ya:List Ex)(s:dy)(hd:List aW)(yi:List Ex)(ti:List Tr)(T:Array Value)(hT:T.size=252)
  (h2:T.getD 2 undef=aw g2) (h4:T.getD 4 undef=aw g4) (h5:T.getD 5 undef=aw g5) (h6:T.getD 6 undef=aw gp) (d:List Deferred) (w:World) (Q:Exit->Act->World->Prop)
  (ih:c.Ok w0) (q1:Tr.cL q.fq) (hih:gJ w0 q.fq L.h.A L.h.n) (q2:q.fq.length<=1000000) (q3:Tr.cL (q.ord.map (·.1))) (q4:eP w0 (q.ord.map λ y=>(y.1,.bool y.2)) L.o.A L.o.n) (Tn:q.ord.length<=1000000) (C3:s.aL.length+s.aJ.length+2*Tr.aQ q.fq+2*Tr.aQ (q.ord.map (·.1))<=1000000)
  (Gu:cP c w0 gp g2 (eI q L) g4 g5 D r w u v ya s hd yi [] [] ti [] [])
  (hE:∀er a W,(dA c.aK c.aL c.cols q.fq s=.error er\/∃eF s',dA c.aK c.aL c.cols q.fq s=.ok (eF,s')/\eu c.aK c.aL c.cols q.ord s'=.error er)->er≠0->ql a d g4 g5->wL w0 g4 g5 D W->Q .ret a (jk W g4 g5 er))
  (hF:∀a W r' u' v' qf s1 s' yh yo eF Kx,dA c.aK c.aL c.cols q.fq s=.ok (eF,s1)->eu c.aK c.aL c.cols q.ord s1=.ok (Kx,s')->ql a d g4 g5->cP c w0 gp g2 (eI q L) g4 g5 D r' W u' v' qf s' hd yi yh yo ti eF Kx->Q .ret a (ju W g4 g5 gp)):
  (fA bJ 8).wp Tryz.prog Q { tmps:=T,defers:=d } w:=by
 open zeK in exact Zcx
structure Jy (gp B:Nat) (W:World) (cs:Array Value) (ri rh:Value) (yi:List Ex) (y:Ex) (hd:List aW) (EK:aW) (s5 s7 s8 EL Tt:Option Value) (s21:Bool) (w:World):Prop where
 e5:∀x,s5=some x->x=ri
 e8:s8.isSome=true->s5.isSome=true/\s7.isSome=true
 e21:s21=true->s8.isSome=true
 e18:Tt.isSome=true->EL.isSome=true
 z7:s8=none->∀x,s7=some x->∃g,x=aI g 1 1/\aB w g 46 (bF y).toArray
 z17:Tt=none->∀x,EL=some x->∃g,x=aI g 1 1/\aB w g 113 (aS EK).toArray
 items:aF bF 46 7 w B (s8.getD ri) (yi++if s8.isSome=true then [y] else [])
 head:aF aS 113 2 w B (Tt.getD rh) (hd++if Tt.isSome=true then [EK] else [])
 mvi:Mv W ri (s8.getD ri)
 mvh:Mv W rh (Tt.getD rh)
 blk:aB w gp 81 (if s21=true then cs.setIfInBounds 13 (s8.getD ri)else cs)
 far:∀b,b < W.heap.size->b≠gp->ri.ownBlock≠some b->rh.ownBlock≠some b->w.heap[b]?=W.heap[b]?
 os:w.os=W.os
 tape:w.tape=W.tape
 output:w.output=W.output
 size:W.heap.size<=w.heap.size
section
variable {gp B:Nat} {W w w':World} {cs:Array Value} {ri rh:Value} {yi:List Ex} {y:Ex} {hd:List aW} {EK:aW} {s5 s7 s8 EL Tt:Option Value} {s21:Bool}
theorem Jy.later (h:Jy gp B W cs ri rh yi y hd EK s5 s7 s8 EL Tt s21 w)(hb:aj w w'):Jy gp B W cs ri rh yi y hd EK s5 s7 s8 EL Tt s21 w':=
 ⟨h.e5,h.e8,h.e21,h.e18,λ h1 x hx=>by obtain⟨g,k1,k2⟩:=h.z7 h1 x hx;exact⟨g,k1,k2.later hb⟩,λ h1 x hx=>by obtain⟨g,k1,k2⟩:=h.z17 h1 x hx;exact⟨g,k1,k2.later hb⟩,h.items.later hb,h.head.later hb,h.mvi,h.mvh,h.blk.later hb,λ b h1 h2 h3 h4=>(hb.block b (Nat.lt_of_lt_of_le h1 h.size)).trans (h.far b h1 h2 h3 h4),hb.os.trans h.os,hb.tape.trans h.tape,hb.output.trans h.output,Nat.le_trans h.size hb.size⟩
theorem Jy.avI (h:Jy gp B W cs ri rh yi y hd EK s5 s7 none EL Tt false w)(h5:s5.isSome=true)(h7:s7.isSome=true) {a:Value}(ho:aF bF 46 7 w' B a (yi++ [y]))(hg:w.grownBy w' ri.ownBlock)(hm:Mv w ri a):Jy gp B W cs ri rh yi y hd EK s5 s7 (some a) EL Tt false w':=by
 have hi:aF bF 46 7 w B ri yi:=by simpa using h.items
 refine⟨h.e5,λ _=>⟨h5,h7⟩,λ _=>rfl,h.e18,(λ e=>by cases e),λ h1 x hx=>by obtain⟨g,k1,k2⟩:=h.z17 h1 x hx;exact⟨g,k1,dB k2 hi Taa hg⟩,ho,h.head.past hi Taa hg,hm.later h.size,h.mvh,dB h.blk hi Taa hg,λ b h1 h2 h3 h4=>(hg.block b (Nat.lt_of_lt_of_le h1 h.size) (Ne.symm h3)).trans (h.far b h1 h2 h3 h4),hg.os.trans h.os,hg.tape.trans h.tape,hg.output.trans h.output,Nat.le_trans h.size hg.size⟩
theorem Jy.apG (h:Jy gp B W cs ri rh yi y hd EK s5 s7 s8 EL none s21 w)(h8:s8.isSome=true)(h17:EL.isSome=true) {a:Value}(ho:aF aS 113 2 w' B a (hd++ [EK]))(hg:w.grownBy w' rh.ownBlock)(hm:Mv w rh a):Jy gp B W cs ri rh yi y hd EK s5 s7 s8 EL (some a) s21 w':=by
 have hi:aF aS 113 2 w B rh hd:=by simpa using h.head
 refine⟨h.e5,h.e8,h.e21,λ _=>h17,λ e=>by(rw[e] at h8;cases h8),(λ e=>by cases e),h.items.past hi Taa hg,ho,h.mvi,hm.later h.size,dB h.blk hi Taa hg,λ b h1 h2 h3 h4=>(hg.block b (Nat.lt_of_lt_of_le h1 h.size) (Ne.symm h4)).trans (h.far b h1 h2 h3 h4),hg.os.trans h.os,hg.tape.trans h.tape,hg.output.trans h.output,Nat.le_trans h.size hg.size⟩
theorem Jy.apH (h:Jy gp B W cs ri rh yi y hd EK s5 s7 s8 EL Tt false w)(h8:s8.isSome=true):Jy gp B W cs ri rh yi y hd EK s5 s7 s8 EL Tt true (w.setCell ⟨gp,13,none⟩ (s8.getD ri)):=by
 have hk:aB w gp 81 cs:=h.blk;have hn8:s8≠none:=λ e=>by rw[e] at h8;cases h8
 have hf:=λ b (hb:b≠gp)=>Below.heap_setCell w ⟨gp,13,none⟩ (s8.getD ri) b hb
 have hz:∀ {g:Nat} {t:TypeId} {c:Array Value},aB w g t c->t≠81->g≠gp:=λ k1 k2 e=>by subst e;have:=k1.symm.trans hk;injection this with this;injection this with _ this _;exact k2 this
 refine⟨h.e5,h.e8,λ _=>h8,h.e18,λ e=>absurd e hn8,λ h1 x hx=>by obtain⟨g,k1,k2⟩:=h.z17 h1 x hx;exact⟨g,k1,(hf g (hz k2 Taa)).trans k2⟩,h.items.keep λ g hg2=>hf g λ e=>h.items.other hk Taa Taj,h.head.keep λ g hg2=>hf g λ e=>h.head.other hk Taa Taj,h.mvi,h.mvh,hk.aU 13 _,λ b h1 h2 h3 h4=>(hf b h2).trans (h.far b h1 h2 h3 h4),h.os,h.tape,h.output,by rw[World.size_setCell];exact h.size⟩
end
def qD (gp B:Nat)(W:World)(cs:Array Value)(ri rh:Value)(yi:List Ex)(y:Ex)(hd:List aW)(EK:aW)(σ:Nat->Option Value)(w:World):Prop:=Jy gp B W cs ri rh yi y hd EK (σ 5) (σ 7) (σ 8) (σ 17) (σ 18) (σ 21).isSome w
variable{B:Nat}{W:World}{cs:Array Value}{rh:Value}{EK:aW}{s5 s7 s8 EL Tt:Option Value}{s21:Bool}
theorem Jy.c12{ri:Value}      (h:Jy gp B W cs ri rh yi y hd EK s5 s7 s8 EL Tt s21 w)(hch:cs[12]?=some rh):w.cell? ⟨gp,12,none⟩=some rh:=by
 rw[h.blk.cell]
 cases s21 with
 | false=>exact hch
 | true=>rw[if_pos rfl,Array.getElem?_setIfInBounds_ne WC];exact hch
variable{P:Program}{o:Oper}{ρ:Operand->Value}{T:Value->World->Prop}
theorem QQ(h:(execOp ρ o).run P w=.ok .skip w')(ht:T undef w'):xa P o ρ w T:=by unfold xa;rw[h];exact ht
def rR (n:Nat):Code->Option Code
 | .region id ops b=>if id=n then some (.region id ops b)else none
 | .seq a b=>match rR n a with | some c=>some c | none=>rR n b
 | .cond _ a b=>match rR n a with | some c=>some c | none=>rR n b
 | .block _ c=>rR n c
 | .loop c=>rR n c
 | _=>none
noncomputable def Dr:Code:=(rR 35 (fA bJ 7)).getD .skip
def lbU (gp:Nat)(rh:Value)(y:Ex)(nm:ByteArray)(ty:Int)(g16:Nat):Nat->Value:=λ i=>if i=0 then(aw gp)else if i=1 then(aw gp)else if i=2 then(aw gp)else if i=3 then(aw gp)else if i=4 then(ba gp 13)else if i=6 then(.agg (bF y).toArray)else if i=9 then(aw gp)else if i=10 then(aw gp)else if i=11 then(ba gp 12)else if i=12 then(rh)else if i=13 then(ba g16 7)else if i=14 then(.string nm)else if i=15 then(ag ty)else if i=16 then(.agg (aS ⟨nm,ty⟩).toArray)else if i=19 then(aw gp)else if i=20 then(ba gp 13)else undef
section
variable {gp B gY g16:Nat} {W:World} {cs:Array Value} {ri rh:Value} {yi:List Ex} {y:Ex} {hd:List aW} {nm:ByteArray} {ty:Int} {Q:Exit->Act->World->Prop} {T:Array Value} {d:List Deferred}
theorem zdr.KaE(h:p:=by show(execOp ρ _).run Tryz.prog w9a=.ok (.value (.agg (bF y).toArray)) w9a;simp[go_sem,r0,z0,z1,x2,x3,x4,x5,x6,bF]):p:=h
theorem Ds (hT:T.size=252)(es0:T.getD 6 undef=aw gp)(es1:T.getD 17 undef=aw gY)(es2:T.getD 16 undef=aw g16)(es3:T.getD 18 undef=ag ty)
  (Z9:cs[13]?=some ri) (hch:cs[12]?=some rh) (hB:B<=W.heap.size) (hblk:aB W gp 81 cs) (hoi:aF bF 46 7 W B ri yi) (hoh:aF aS 113 2 W B rh hd) (Nj:yi.length<=1000000) (hlh:hd.length<=1000000)
  (XO:aB W gY 46 (bF y).toArray) (hY1:gY≠gp) (hY2:ri.ownBlock≠some gY) (hY3:rh.ownBlock≠some gY) (hn:W.cell? ⟨g16,7,none⟩=some (.string nm)) (hN0:g16 < W.heap.size) (hN1:g16≠gp) (hN2:ri.ownBlock≠some g16) (hN3:rh.ownBlock≠some g16)
  (lZ:∀adB adC z167 z168 adD adE z171 adF z173 adG z175 adH adI adJ adK adL adM z182 z183 adN adO adP adQ w9a a b s7 EL,Jy gp B W cs ri rh yi y hd ⟨nm,ty⟩ (some ri) s7 (some a) EL (some b) true w9a->Q .normal { tmps:=(((((((((((((((((((((((T.setIfInBounds 165 adB).setIfInBounds 166 adC).setIfInBounds 167 z167).setIfInBounds 168 z168).setIfInBounds 169 adD).setIfInBounds 170 adE).setIfInBounds 171 z171).setIfInBounds 172 adF).setIfInBounds 173 z173).setIfInBounds 174 adG).setIfInBounds 175 z175).setIfInBounds 176 adH).setIfInBounds 177 adI).setIfInBounds 178 adJ).setIfInBounds 179 adK).setIfInBounds 180 adL).setIfInBounds 181 adM).setIfInBounds 182 z182).setIfInBounds 183 z183).setIfInBounds 184 adN).setIfInBounds 185 adO).setIfInBounds 186 adP).setIfInBounds 187 adQ),defers:=d } (w9a.setCell ⟨gp,12,none⟩ b)):
  Dr.wp Tryz.prog Q { tmps:=T,defers:=d } W:=by
 obtain⟨f,rfl⟩:=kP T hT;have es0:f 6=_:=es0;have es1:f 17=_:=es1;have es2:f 16=_:=es2;have es3:f 18=_:=es3;unfold Dr;simp only[bJ,fA,Tryz.f28,Option.getD_some,rR,Nat.reduceEqDiff,if_true,if_false];refine qU _ _ (take_append_drop 22 _).symm (lbU gp rh y nm ty g16) [5,7,8,17,18,21] (qD gp B W cs ri rh yi y hd ⟨nm,ty⟩) (λ σ w9a h=>Jy.later h (Below.refl _ _).drew) ⟨(λ x e=>by cases e),(λ e=>by cases e),(λ e=>by cases e),(λ e=>by cases e),(λ _ x e=>by cases e),(λ _ x e=>by cases e),by simpa using hoi,by simpa using hoh,Mv.refl _ _,Mv.refl _ _,hblk,λ _ _ _ _ _=>rfl,rfl,rfl,rfl,Nat.le_refl _⟩ Va Va Va Va ?_ ?_
 ·simp only[take_succ_cons,take_zero];refine⟨Zcf,Zcf,Zcf,?_,?_,?_,?_,?_,?_,Zcf,?_,?_,?_,?_,?_,?_,?_,?_,?_,?_,?_,?_,trivial⟩
  ·intro ρ w9a σ hc hG hr he hno;have r0:ρ (.tmp 167)=aw gp:=hr.1;exact Za1
  ·intro ρ w9a σ hc hG hr he hno;have r0:ρ (.tmp 168)=aw gp:=hr.1;exact ZeD
  ·intro ρ w9a σ hc hG hr he hno;have r0:ρ (.tmp 169)=ba gp 13:=hr.1;refine⟨rfl,?_⟩;unfold qD at hG;rw[if_pos Taa];have pR:=hno Taa
   have h8n:σ 8=none:=by
    cases h:σ 8 with
    | none=>rfl
    | some a=>have:=(hG.e8 (by rw[h];rfl)).1;rw[pR] at this;cases this
   have adR:(σ 21).isSome=false:=by
    cases h:(σ 21).isSome with
    | false=>rfl
    | true=>have:=hG.e21 h;rw[h8n] at this;cases this
   have rC:=hG.blk;rw[adR] at rC;have rC:aB w9a gp 81 cs:=rC;have c13:=(rC.cell 13).trans Z9;refine aq (v:=ri) (w':=w9a) (by simp[go_sem,r0,c13]) ?_;show qD _ _ _ _ _ _ _ _ _ _ _ _;unfold qD;simp only[jF,Nat.reduceEqDiff,if_true,if_false];exact⟨λ x e=>by injection e with e;exact e.symm,λ e=>⟨rfl,(hG.e8 e).2⟩,hG.e21,hG.e18,hG.z7,hG.z17,hG.items,hG.head,hG.mvi,hG.mvh,hG.blk,hG.far,hG.os,hG.tape,hG.output,hG.size⟩
  ·intro ρ w9a σ hc hG hr he hno;have r0:ρ (.tmp 17)=aw gY:=(show ρ (.tmp 17)=f 17 from hr.1).trans es1;refine⟨rfl,?_⟩;unfold qD at hG;rw[if_neg Taa];have rC:aB w9a gY 46 (bF y).toArray:=(hG.far gY XO.lt hY1 hY2 hY3).trans XO;open zdr in exact Zbu
  ·intro ρ w9a σ hc hG hr he hno;have r0:ρ (.tmp 171)=.agg (bF y).toArray:=hr.1;refine⟨rfl,?_⟩;unfold qD at hG;rw[if_pos Taa];have pR:=hno Taa;refine aq (v:=aI w9a.heap.size 1 1) (w':=w9a.alloc (.cells (bF y).toArray 46)) (by simp[go_sem,r0,bF]) ?_;show qD _ _ _ _ _ _ _ _ _ _ _ _;unfold qD;simp only[jF,Nat.reduceEqDiff,if_true,if_false];have hA:=hG.later (ah w9a (.cells (bF y).toArray 46));exact⟨hA.e5,λ e=>⟨(hA.e8 e).1,rfl⟩,hA.e21,hA.e18,λ _ x e=>by injection e with e;exact⟨w9a.heap.size,e.symm,aB.new w9a _ _⟩,hA.z17,hA.items,hA.head,hA.mvi,hA.mvh,hA.blk,hA.far,hA.os,hA.tape,hA.output,hA.size⟩
  ·intro ρ w9a σ hc hG hr he hno;have r0:σ 5=some (ρ (.tmp 170)):=hr.1;have r1:σ 7=some (ρ (.tmp 172)):=hr.2.1;refine⟨rfl,?_⟩;unfold qD at hG;rw[if_pos Taa];have pR:=hno Taa;have h5s:=he 5 (cK.1 Va) Taa;have h7s:=he 7 (cK.1 Va) Taa;rw[pR] at hG
   have adR:(σ 21).isSome=false:=by
    cases h:(σ 21).isSome with
    | false=>rfl
    | true=>have:=hG.e21 h;cases this
   rw[adR] at hG;obtain⟨Kx,hz1,hz2⟩:=hG.z7 rfl _ r1;have q0:=hG.e5 _ r0;have ajb:aF bF 46 7 w9a B ri yi:=by simpa using hG.items
   obtain⟨v',w',hrun,ho,yy,En⟩:=eN (P:=Tryz.prog) (w:=w9a) 23 23 _ 88 Tryz.underlying23 fL rfl WC (λ _=>rfl) (y:=y) TaC ajb Kx hz2 WC WC (Nat.le_trans hB hG.size);refine aq (v:=v') (w':=w') (by simp only[execOp,resolve,invoke,builtin,Sem.run_bind,Sem.run_pure,Result.andThen_ok,map_toArray,map_cons,map_nil,q0,hz1,hrun]) ?_;show qD _ _ _ _ _ _ _ _ _ _ _ _;unfold qD;simp only[jF,Nat.reduceEqDiff,if_true,if_false,adR];exact hG.avI h5s h7s ho yy.grown En
  ·intro ρ w9a σ hc hG hr he hno;have r0:ρ (.tmp 174)=aw gp:=hr.1;exact Za1
  ·intro ρ w9a σ hc hG hr he hno;have r0:ρ (.tmp 175)=aw gp:=hr.1;refine⟨rfl,?_⟩;unfold qD at hG;rw[if_neg Taa];show(execOp ρ _).run Tryz.prog w9a=.ok (.value (ba gp 12)) w9a;simp[go_sem,r0]
  ·intro ρ w9a σ hc hG hr he hno;have r0:ρ (.tmp 176)=ba gp 12:=hr.1;refine⟨rfl,?_⟩;unfold qD at hG;rw[if_neg Taa];have c12:=hG.c12 hch;show(execOp ρ _).run Tryz.prog w9a=.ok (.value (rh)) w9a;simp[go_sem,r0,c12]
  ·intro ρ w9a σ hc hG hr he hno;have r0:ρ (.tmp 16)=aw g16:=(show ρ (.tmp 16)=f 16 from hr.1).trans es2;refine⟨rfl,?_⟩;unfold qD at hG;rw[if_neg Taa];show(execOp ρ _).run Tryz.prog w9a=.ok (.value (ba g16 7)) w9a;simp[go_sem,r0]
  ·intro ρ w9a σ hc hG hr he hno;have r0:ρ (.tmp 178)=ba g16 7:=hr.1;refine⟨rfl,?_⟩;unfold qD at hG;rw[if_neg Taa];have cn:=(bH (hG.far g16 hN0 hN1 hN2 hN3) 7).trans hn;show(execOp ρ _).run Tryz.prog w9a=.ok (.value (.string nm)) w9a;simp[go_sem,r0,cn]
  ·intro ρ w9a σ hc hG hr he hno;have r0:ρ (.tmp 18)=ag ty:=(show ρ (.tmp 18)=f 18 from hr.1).trans es3;refine⟨rfl,?_⟩;unfold qD at hG;rw[if_neg Taa];show(execOp ρ _).run Tryz.prog w9a=.ok (.value (ag ty)) w9a;simp[go_sem,r0]
  ·intro ρ w9a σ hc hG hr he hno;have r0:ρ (.tmp 179)=.string nm:=hr.1;have r1:ρ (.tmp 180)=ag ty:=hr.2.1;refine⟨rfl,?_⟩;unfold qD at hG;rw[if_neg Taa];show(execOp ρ _).run Tryz.prog w9a=.ok (.value (.agg (aS ⟨nm,ty⟩).toArray)) w9a;simp[go_sem,r0,r1,aS]
  ·intro ρ w9a σ hc hG hr he hno;have r0:ρ (.tmp 181)=.agg (aS ⟨nm,ty⟩).toArray:=hr.1;refine⟨rfl,?_⟩;unfold qD at hG;rw[if_pos Taa];have pR:=hno Taa;refine aq (v:=aI w9a.heap.size 1 1) (w':=w9a.alloc (.cells (aS ⟨nm,ty⟩).toArray 113)) (by simp[go_sem,r0,aS]) ?_;show qD _ _ _ _ _ _ _ _ _ _ _ _;unfold qD;simp only[jF,Nat.reduceEqDiff,if_true,if_false];have hA:=hG.later (ah w9a (.cells (aS ⟨nm,ty⟩).toArray 113));exact⟨hA.e5,hA.e8,hA.e21,λ _=>rfl,hA.z7,λ _ x e=>by injection e with e;exact⟨w9a.heap.size,e.symm,aB.new w9a _ _⟩,hA.items,hA.head,hA.mvi,hA.mvh,hA.blk,hA.far,hA.os,hA.tape,hA.output,hA.size⟩
  ·intro ρ w9a σ hc hG hr he hno;have r0:ρ (.tmp 177)=rh:=hr.1;have r1:σ 17=some (ρ (.tmp 182)):=hr.2.1;refine⟨rfl,?_⟩;unfold qD at hG;rw[if_pos Taa];have pR:=hno Taa;have h8s:=he 8 (cK.1 Va) Taa;have avL:=he 17 (cK.1 Va) Taa;rw[pR] at hG;obtain⟨Kx,hz1,hz2⟩:=hG.z17 rfl _ r1;have ajb:aF aS 113 2 w9a B rh hd:=by simpa using hG.head
   obtain⟨v',w',hrun,ho,yy,En⟩:=eN (P:=Tryz.prog) (w:=w9a) 28 28 _ 24 Tryz.underlying28 rD rfl WC (λ _=>rfl) (y:=⟨nm,ty⟩) Ta0 ajb Kx hz2 WC WC (Nat.le_trans hB hG.size);refine aq (v:=v') (w':=w') (by simp only[execOp,resolve,invoke,builtin,Sem.run_bind,Sem.run_pure,Result.andThen_ok,map_toArray,map_cons,map_nil,r0,hz1,hrun]) ?_;show qD _ _ _ _ _ _ _ _ _ _ _ _;unfold qD;simp only[jF,Nat.reduceEqDiff,if_true,if_false];exact hG.apG h8s avL ho yy.grown En
  ·intro ρ w9a σ hc hG hr he hno;have r0:ρ (.tmp 165)=aw gp:=hr.1;exact Za1
  ·intro ρ w9a σ hc hG hr he hno;have r0:ρ (.tmp 184)=aw gp:=hr.1;exact ZeD
  ·intro ρ w9a σ hc hG hr he hno;have r0:ρ (.tmp 185)=ba gp 13:=hr.1;have r1:σ 8=some (ρ (.tmp 173)):=hr.2.1;refine⟨rfl,?_⟩;unfold qD at hG;rw[if_pos Taa];have pR:=hno Taa;have h8s:=he 8 (cK.1 Va) Taa;obtain⟨a,ha⟩:=Option.isSome_iff_exists.1 h8s;rw[pR] at hG;rw[ha] at r1;injection r1 with r1;have jR:aB w9a gp 81 cs:=hG.blk;have hit:=hG.items;rw[ha] at hit;obtain⟨q,c,e1,_,_⟩:=hit.block Tac;have e1:a=aI q _ c:=e1;have q1:=r1.symm.trans e1;have c13:=(jR.cell 13).trans Z9;have f13:=jR.frozen 13;have hp:=Jy.apH hG h8s;rw[ha,e1] at hp;refine QQ (w':=w9a.setCell ⟨gp,13,none⟩ (aI q (yi++if (some a).isSome=true then [y] else []).length c)) (by simp[go_sem,r0,q1,c13,f13]) ?_;show qD _ _ _ _ _ _ _ _ _ _ _ _;unfold qD;simp only[jF,Nat.reduceEqDiff,if_true,if_false,Option.isSome_some];rw[ha,e1];exact hp
 ·intro σ w9a hM hG;simp only[Uab];obtain⟨a,ha⟩:=Option.isSome_iff_exists.1 (hM 8 Taa);obtain⟨b,rC⟩:=Option.isSome_iff_exists.1 (hM 18 Taa);have h21:=hM 21 Taa;unfold qD at hG;obtain⟨x5,h5⟩:=Option.isSome_iff_exists.1 (hM 5 Taa);have h5e:=hG.e5 _ h5;rw[ha,rC,h21,h5,h5e] at hG;intro a0 q0 a1 q1 a2 q2 a3 q3 a4 q4 a5 q5 a6 q6 a7 q7 a8 q8 a9 q9 FH Uu H7 q11 a12 q12 a13 q13 a14 q14 a15 q15 a16 q16 a17 q17 a18 q18 a19 q19 a20 q20;have e1:a1=aw gp:=q1;have e18:σ 18=some a18:=q18;rw[rC] at e18;injection e18 with e18;clear q0 q1 q2 q3 q4 q5 q6 q7 q8 q9 Uu q11 q12 q13 q14 q15 q16 q17 q18 q19 q20;subst e1 e18;have S0:=hG.head;obtain⟨qq,cc,hqq,_,_⟩:=S0.block Tac;have hqq:b=aI qq _ cc:=hqq;have c12:=hG.c12 hch;have f12:=hG.blk.frozen 12;simp only[bS,bD,Act.put,Uac];simp only[bS,Uac] at lZ;have HF:=aa lZ;have HG:=aa hG;clear lZ hG S0;obtain⟨n9,hn9⟩:∃n9,n9=(hd++if (some b).isSome=true then [(⟨nm,ty⟩:aW)] else []).length:=⟨_,rfl⟩;rw[<- hn9] at hqq;clear hn9;subst hqq;go_wp2_with fail;refine HF.ae _ _ _ _ _ _ _ _ _ _ _ _ _ _ _ _ _ _ _ _ _ _ _ _ _ _ _ _ HG.ae
end
section
variable {c:PC} {w0 w w1:World} {gp g2 g4 g5 D:Nat} {qc:Array Value} {r:Rest} {u v:Value} {ya:List Ex} {s:dy} {hd:List aW} {yi yh yo:List Ex} {ti th eF:List Tr}
theorem cP.QR (h:cP c w0 gp g2 qc g4 g5 D r w u v ya s hd yi yh yo ti th eF) {t:Tr} {y:Ex} {a b:Value} {EK:aW} {s7 EL:Option Value}(hl:Jy gp w0.heap.size w (c.cells r u v) r.i r.h yi y hd EK (some r.i) s7 (some a) EL (some b) true w1)(ht:t.at_ w (sS w gp (PR u v r)) y):
  cP c w0 gp g2 qc g4 g5 D { r with h:=b,i:=a } (w1.setCell ⟨gp,12,none⟩ b) u v ya s (hd++ [EK]) (yi++ [y]) yh yo (ti++ [t]) th eF:=by
 have jR:aB w1 gp 81 ((c.cells r u v).setIfInBounds 13 a):=hl.blk;have hi:aF bF 46 7 w1 w0.heap.size a (yi++ [y]):=hl.items;have hh:aF aS 113 2 w1 w0.heap.size b (hd++ [EK]):=hl.head;have hf:=λ k (hk:k≠gp)=>Below.heap_setCell w1 ⟨gp,12,none⟩ b k hk
 have Gl:aF bF 46 7 (w1.setCell ⟨gp,12,none⟩ b) w0.heap.size a (yi++ [y]):=hi.keep λ g hg2=>hf g λ e=>hi.other jR Taa Taj
 have hh2:aF aS 113 2 (w1.setCell ⟨gp,12,none⟩ b) w0.heap.size b (hd++ [EK]):=hh.keep λ g hg2=>hf g λ e=>hh.other jR Taa Taj
 have hb2:aB (w1.setCell ⟨gp,12,none⟩ b) gp 81 (c.cells { r with h:=b,i:=a } u v):=jR.aU 12 b;have hab:∀q,a.ownBlock=some q->b.ownBlock≠some q:=λ q h1 h2=>by obtain⟨_,_,_,e1⟩:=hi.lt h1;obtain⟨_,_,_,e2⟩:=hh.lt h2;rw[e1] at e2;injection e2 with e2;injection e2 with _ e2 _;exact absurd e2 Taa
 have p:CQ w0 gp (PR u v r) (PR u v { r with h:=b,i:=a }) (λ i=>i=2\/i=3) w (w1.setCell ⟨gp,12,none⟩ b):=by
  refine⟨hl.os,hl.tape,hl.output,by rw[World.size_setCell];exact hl.size,λ k h1 h2 h3=>(hf k h2).trans (hl.far k h1 h2 (h3 3 WC (.inr rfl)) (h3 2 WC (.inl rfl))),?_,?_,?_,?_⟩
  ·intro i hi hT
   match i with
   | 0 | 1 | 4 | 5=>rfl
   | 2=>exact absurd (.inl rfl) hT
   | 3=>exact absurd (.inr rfl) hT
   | n+6=>omega
  ·intro i hi hT;rcases hT with rfl | rfl
   ·exact hl.mvh
   ·exact hl.mvi
  ·intro i hi j hj hT hU nL q h1 h2;rcases hT with rfl | rfl <;> rcases hU with rfl | rfl
   ·exact nL rfl
   ·exact hab q h2 h1
   ·exact hab q h1 h2
   ·exact nL rfl
  ·intro i hi hT q hq;rcases hT with rfl | rfl
   ·have hq:b.ownBlock=some q:=hq;exact⟨(hh2.lt hq).2.1,(hh2.lt hq).1,λ e=>hh2.other hb2 Taa (by rw[hq,e])⟩
   ·have hq:a.ownBlock=some q:=hq;exact⟨(Gl.lt hq).2.1,(Gl.lt hq).1,λ e=>Gl.other hb2 Taa (by rw[hq,e])⟩
 have hT:=p.trees (ts:=[t]) (ys:=[y]) (Tr.fO ht);exact⟨h.f.step p,hb2,p.own h.f (i:=0) WC WC h.o0,p.own h.f (i:=1) WC WC h.o1,hh2,Gl,p.own h.f (i:=4) WC WC h.o4,p.own h.f (i:=5) WC WC h.o5,h.aJ,Tr.all_append (p.trees h.t3) hT,p.trees h.t4,p.trees h.t5⟩
theorem cP.apI {w':World} {u' v':Value} {qf:List Ex} {s':dy}(h:cP c w0 gp g2 qc g4 g5 D r w u v ya s hd yi yh yo ti th eF)(hs:gL gp w u v w' u' v')(hp:eJ c w0 gp r w' u' v' qf s') {t:Tr} {y:Ex}(ht:t.at_ w' (λ b=>(b < w0.heap.size\/w.heap.size<=b)/\Kp w' gp [u',v'] b) y):t.at_ w' (λ b=>sS w' gp (PR u' v' r) b/\(b < w0.heap.size\/w.heap.size<=b)/\Kp w' gp [u',v'] b) y:=by have p:=(h.call hs hp).f;refine Tr.at_.keep (λ b hb=>⟨λ _=>rfl,⟨hb.2.1,hb.2.2.1,λ i hi e=>?_⟩,hb⟩) t y ht;exact Zb8
theorem CQ.QS {R R':Nat->Value} {T:Nat->Prop} {w':World} {q:Nat}(p:CQ w0 gp R R' T w w') {ts:List Tr} {ys:List Ex}(h:Tr.aO w (λ b=>sS w gp R b/\b≠q) ts ys):Tr.aO w' (λ b=>sS w' gp R' b/\b≠q) ts ys:=Tr.aO.keep (λ b hb=>⟨λ o=>bH (p.keep hb.1) o,p.kp hb.1,hb.2⟩) ts ys h
theorem cP.aside (h:cP c w0 gp g2 qc g4 g5 D r w u v ya s hd yi [] [] ti [] []) {q:Nat}(hg:w.grownBy w1 (some q))(hl:w0.heap.size<=q)(hk:sS w gp (PR u v r) q)(hn:q≠g2/\q≠g4/\q≠g5/\q≠D)(ht:Tr.aO w (λ b=>sS w gp (PR u v r) b/\b≠q) ti yi):cP c w0 gp g2 qc g4 g5 D r w1 u v ya s hd yi [] [] ti [] []:=by
 have hb:=λ b (h1:b < w.heap.size) (h2:b≠q)=>hg.block b h1 (λ e=>by injection e with e;exact h2 e)
 have hkp:∀b,sS w gp (PR u v r) b->sS w1 gp (PR u v r) b:=λ b k=>⟨Nat.lt_of_lt_of_le k.1 hg.size,k.2⟩
 have hf:=h.f;have ho:∀ {α:Type} {f:α->List Value} {e:TypeId} {size base:Nat} {l:List α} {x:Value},aF f e size w base x l->x.ownBlock≠some q->aF f e size w1 base x l:=λ o hx=>o.grown hg hx
 refine⟨⟨hf.low,Nat.lt_of_lt_of_le hf.lt hg.size,Below.trans hf.base (xV hg hf.base.size hl),λ i hi b hb=>⟨(hf.rows i hi b hb).1,Nat.lt_of_lt_of_le (hf.rows i hi b hb).2.1 hg.size,(hf.rows i hi b hb).2.2⟩,hf.ap,hkp _ hf.k2,hkp _ hf.k4,hkp _ hf.k5,hkp _ hf.kD,hf.new,(hb D hf.kD.1 (Ne.symm hn.2.2.2)).trans hf.dd,(hb g2 hf.k2.1 (Ne.symm hn.1)).trans hf.z2,(hb g4 hf.k4.1 (Ne.symm hn.2.1)).trans hf.z4,(hb g5 hf.k5.1 (Ne.symm hn.2.2.1)).trans hf.z5⟩,(hb gp hf.lt (Ne.symm hk.2.1)).trans h.blk,ho h.o0 (hk.2.2 0 WC),ho h.o1 (hk.2.2 1 WC),ho h.o2 (hk.2.2 2 WC),ho h.o3 (hk.2.2 3 WC),ho h.o4 (hk.2.2 4 WC),ho h.o5 (hk.2.2 5 WC),h.aJ,Tr.aO.keep (λ b k=>⟨λ o=>bH (hb b k.1.1 k.2) o,hkp b k.1⟩) _ _ ht,?_,?_⟩
 ·unfold Tr.aO;rfl
 ·unfold Tr.aO;rfl
end
def GR (g:Bool)(aL:List Tr)(cols:List aW)(q:Qy)(s:dy):Except Int (List Tr×List Tr×dy):=
 match dA g aL cols q.fq s with
 | .error e=> .error e
 | .ok (hs,s2)=>match eu g aL cols q.ord s2 with
   | .error e=> .error e
   | .ok (os,s3)=> .ok (hs,os,s3)
def wM (g:Bool)(aL:List Tr)(cols:List aW)(q:Qy)(s:dy):Except Int (List Tr×List aW×List Tr×List Tr×dy):=
 match dm g aL cols q.items s with
 | .error e=> .error e
 | .ok (is,hd,s1)=>match GR g aL cols q s1 with
   | .error e=> .error e
   | .ok (hs,os,s3)=> .ok (is,hd,hs,os,s3)
def zh (l:List Tr)(m:List aW):Except Int (List Tr×List aW×dy)->Except Int (List Tr×List aW×dy)
 | .error e=> .error e
 | .ok (ys,hd,s)=> .ok (l++ys,m++hd,s)
theorem Wp (x:Except Int (List Tr×List aW×dy)):zh [] [] x=x:=by exact ZgV
theorem QT(l:List Tr)(m:List aW)(y:Tr)(cl:aW) {x x':Except Int (List Tr×List aW×dy)}(h:x'=(match x with | .error e=> .error e | .ok (ys,hd,s)=> .ok (y::ys,cl::hd,s))):zh l m x'=zh (l++ [y]) (m++ [cl]) x:=by
 rw[h]
 cases x with
 | error e=>rfl
 | ok p=>obtain⟨ys,hd,s⟩:=p;show Except.ok (l++y::ys,m++cl::hd,s)=Except.ok ((l++ [y])++ys,(m++ [cl])++hd,s);rw[append_assoc,append_assoc];rfl
theorem S1{t:Tr} {x:Ex}(h:t.at_ w S x):x.op=t.op/\x.name=t.name:=by
 cases t with
 | mk op v name width args=>unfold Tr.at_ at h;exact⟨h.1,h.2.2.1⟩
variable{b:ByteArray}
theorem MT(h:b.toList=[]):b.size=0:=by
 unfold ByteArray.toList ByteArray.toList.loop at h;split at h
 ·exfalso
  have:∀i r,(ByteArray.toList.loop b i r).length≥r.length:=by
   intro i r
   fun_induction ByteArray.toList.loop b i r with
   | case1 i r hi ih=>simp at ih;omega
   | case2=>simp
  have h2:=this 1 [b.get! 0];rw[h] at h2;simp at h2
 ·omega
theorem S2:(⟨#[]⟩:ByteArray).toList=[]:=by unfold ByteArray.toList ByteArray.toList.loop;rfl
theorem apK(h:b.size=0):b=⟨#[]⟩:=by
 cases b with
 | mk d=>have h:d.size=0:=h;rw[Array.eq_empty_of_size_eq_zero h]
theorem zbR.Kal(h:p:=by go_wp2_with fail;exact HE.ae er _ _ (by unfold wM;rw[<- HB.ae,ow.ae]) nE.ae ⟨rfl,rfl,rfl⟩ HW.ae):p:=h
theorem zfm.Kbe(h:p:=by go_upto_region 31 with fail;generalize w6.alloc (.cells (ay KK) 46)=WD at*;obtain⟨_,_,_,uK,_,_,b4,b5,_⟩:=HW.ae;open zbR in exact ZaC):p:=h
theorem zfp.Kbf(h:p:=by
 have zW:=aa VG;clear VG;have tu:aB WD g16 48 #[ag x.op,ag x.v.k,af x.v.n,.string x.v.s,.string x.name,af x.width,.slice x.A x.n x.c,.string nm]:=Cj.ae;have z0:=tu.cell 0;have x4:=tu.cell 4;have x7:=tu.cell 7;have fx:=tu.frozen;simp only[Uaa] at z0 x4 x7;clear tu;go_wp2_with fail
 ·rename_i iX hop;have apO:nm.size=0:=MT iX;have xJ:=aa (show X=zh (ti++ [t2]) (jU++ [⟨x.name,ty⟩]) (dm c.aK c.aL c.cols (q.items.drop (k+1)) s2) by
   rw[EJ.ae]
   have h2:t.op=2:=by rw[<-(S1 wW.ae).1];exact of_decide_eq_true hop
   rw[show ie t nm=x.name by unfold ie;rw[if_pos ⟨apO,h2⟩,(S1 wW.ae).2]])
  clear EJ iX hop apO;have hg:=aC (aR (Below.refl WD.heap.size WD):WD.grownBy WD (some g16)) 7 (.string x.name);have JW:=aa (sM.ae.aside hg ajc.ae.1 Mt.ae ajc.ae.2 HT7.ae);have jR:∀b,b < WD.heap.size->b≠g16->(WD.setCell ⟨g16,7,none⟩ (.string x.name)).heap[b]?=WD.heap[b]?:=λ b h1 h2=>hg.block b h1 (λ e=>by injection e with e;exact h2 e)
  have xI:=aa (show Tr.aO (WD.setCell ⟨g16,7,none⟩ (.string x.name)) (sS (WD.setCell ⟨g16,7,none⟩ (.string x.name)) gp (PR u' v' { r with h:=rh,i:=ri })) [t2] [KK] from Tr.aO.keep (λ b hb=>⟨λ o=>bH (jR b hb.1.1 hb.2) o,Nat.lt_of_lt_of_le hb.1.1 hg.size,hb.1.2⟩) _ _ adT.ae);have HYB:=aa (show aB (WD.setCell ⟨g16,7,none⟩ (.string x.name)) gY 46 (bF KK).toArray from(jR gY Ts.ae.1 (Ne.symm XD.ae)).trans ND.ae);have tF:=aa (show sS (WD.setCell ⟨g16,7,none⟩ (.string x.name)) gp (PR u' v' { r with h:=rh,i:=ri }) g16 from⟨Nat.lt_of_lt_of_le Mt.ae.1 hg.size,Mt.ae.2⟩);have Wv:=aa (show sS (WD.setCell ⟨g16,7,none⟩ (.string x.name)) gp (PR u' v' { r with h:=rh,i:=ri }) gY from⟨Nat.lt_of_lt_of_le Ts.ae.1 hg.size,Ts.ae.2⟩);have pT:=aa (show(WD.setCell ⟨g16,7,none⟩ (.string x.name)).cell? ⟨g16,7,none⟩=some (.string x.name) by
   have tu:aB WD g16 48 #[ag x.op,ag x.v.k,af x.v.n,.string x.v.s,.string x.name,af x.width,.slice x.A x.n x.c,.string nm]:=Cj.ae
   rw[(tu.aU 7 (.string x.name)).cell]
   rfl)
  clear sM GQ ND HT7 adT fx z0 x4 x7 Cj Mt Ts jR hg;generalize World.setCell WD _ _=WB at*;have HOi:=aa JW.ae.o3;have HOh:=aa JW.ae.o2;have HLi:=aa (show yi.length<=1000000 by have:=HFN.ae;have:=qC.ae;have:=VJ.ae;have:=zW.ae;omega);have HLh:=aa (show(hd++jU).length<=1000000 by have:=Q3.ae;have:=HFN.ae;have:=qC.ae;have:=VJ.ae;rw[length_append];omega);have key:=λ(T:Array Value) (hT:T.size=252) e0 e1 e2 e3 (Q2:Exit->Act->World->Prop) hf=>Ds (T:=T) (d:=d) (Q:=Q2) (gp:=gp) (B:=w0.heap.size) (gY:=gY) (g16:=g16) (W:=WB) (cs:=c.cells { r with h:=rh,i:=ri } u' v') (ri:=ri) (rh:=rh) (yi:=yi) (y:=KK) (hd:=hd++jU) (nm:=x.name) (ty:=ty) hT e0 e1 e2 e3 rfl rfl JW.ae.f.base.size JW.ae.blk HOi.ae HOh.ae HLi.ae HLh.ae HYB.ae Wv.ae.2.1 (Wv.ae.2.2 3 WC) (Wv.ae.2.2 2 WC) pT.ae tF.ae.1 tF.ae.2.1 (tF.ae.2.2 3 WC) (tF.ae.2.2 2 WC) hf
  simp only[Dr,bJ,fA,Tryz.f28,Option.getD_some,rR,Nat.reduceEqDiff,if_true,if_false] at key;refine key _ ?_ ?_ ?_ ?_ ?_ _ ?_
  ·rfl
  ·rfl
  ·rfl
  ·rfl
  ·rfl
  clear key;intro adB adC z167 z168 adD adE z171 adF z173 adG z175 adH adI adJ adK adL adM z182 z183 adN adO adP adQ w8 a b9 s7 EL DY;simp only[Uac];have R7:=aa (JW.ae.QR DY (mm xI.ae));clear DY JW HYB pT xI HOi HOh;generalize World.setCell w8 _ _=Ny at*;have hk7:k < 1000000:=by have:=HFN.ae;have:=VJ.ae;omega
  go_wp2_with fail;go_roundw;case rel=>exact⟨k+1,b9,a,u',v',I6,yi++ [KK],s2,ti++ [t2],jU++ [⟨x.name,ty⟩],hlt,by go_num,by
   have h:=R7.ae
   rw[append_assoc] at h
   exact h,xJ.ae,by have:=xZ.ae;have:=HND.ae;have:=Dp.ae;omega,by rw[length_append,qC.ae.1];rfl,by rw[length_append,qC.ae.2];rfl⟩
  case measure=>exact Za0
 ·rename_i iX hop;have xJ:=aa (show X=zh (ti++ [t2]) (jU++ [⟨nm,ty⟩]) (dm c.aK c.aL c.cols (q.items.drop (k+1)) s2) by
   rw[EJ.ae]
   have h2:¬t.op=2:=by rw[<-(S1 wW.ae).1];exact of_decide_eq_false hop
   rw[show ie t nm=nm by unfold ie;rw[if_neg (λ h=>h2 h.2)]])
  clear EJ iX hop;exact Zak
 ·rename_i iX;have xJ:=aa (show X=zh (ti++ [t2]) (jU++ [⟨nm,ty⟩]) (dm c.aK c.aL c.cols (q.items.drop (k+1)) s2) by
   rw[EJ.ae]
   rw[show ie t nm=nm by unfold ie;rw[if_neg (λ h=>iX (by rw[apK h.1];exact S2))]])
  clear EJ iX;exact Zak):p:=h
theorem zdS.KaK(h:p:=by
 go_wp2_with fail;clear z0 z1 x2 x3 x4 x5 x6;refine(CN c w0 gp { r with h:=rh,i:=ri } t x s1 u1 v1 Jl W2 IH.ae kx.ae wW.ae tN.ae.ps TaO).mono ?_;intro e w6 hp;have uT:=aa (lG c.aK c.aL c.cols t s1)
 cases hr:oV c.aK c.aL c.cols t s1 with
 | error er=>
   open zfm in exact Zc7
 | ok p=>
   obtain⟨t2,ty,s2⟩:=p;have ajd:=uO.ae;rw[hr] at hp uT ajd;obtain⟨KK,u',v',I6,rfl,uz,pH,hst⟩:=hp;have rQ:=tN.ae.call hst pH;have Wo:=tN.ae.tree hst pH uz;have nU:=tN.ae.stp hst pH;have apN:t2.at_ w6 (λ b=>sS w6 gp (PR u' v' { r with h:=rh,i:=ri }) b/\(b < w0.heap.size\/W2.heap.size<=b)/\Kp w6 gp [u',v'] b) KK:=cP.apI tN.ae hst pH uz;have bg:=ah w6 (.cells (ay KK) 46);have XO:=aB.new w6 46 (ay KK);have sM:=aa (rQ.later bg);have hpl:=CQ.later (w0:=w0) (gp:=gp) (R:=PR u' v' { r with h:=rh,i:=ri }) bg;have GQ:=aa (hpl.trees (Tr.fO Wo));have HT7:=aa (hpl.QS (nU.QS apL.ae));have adT:=aa (show Tr.aO (w6.alloc (.cells (ay KK) 46)) (λ b=>sS (w6.alloc (.cells (ay KK) 46)) gp (PR u' v' { r with h:=rh,i:=ri }) b/\b≠g16) [t2] [KK] from hpl.QS (Tr.fO (Tr.at_.keep (λ b hb=>⟨λ _=>rfl,hb.1,λ e=>by
    rcases hb.2.1 with h | h
    ·have:=ajc.ae.1;omega
    ·have:=Wu.ae.1;omega⟩) t2 KK (apN))))
   have Mt:=aa (hpl.kp (nU.kp Wu.ae));have Cj:=aa ((hpl.keep (nU.kp Wu.ae)).trans ((nU.keep Wu.ae).trans Av.ae));have Ts:=aa (show sS (w6.alloc (.cells (ay KK) 46)) gp (PR u' v' { r with h:=rh,i:=ri }) w6.heap.size from⟨XO.lt,by have:=rQ.f.lt;omega,λ i hi e=>by have:=(rQ.f.rows i hi _ e).2.1;omega⟩);have XD:=aa (show g16≠w6.heap.size from λ e=>by have:=(nU.kp Wu.ae).1;omega);have Dp:=aa (uT.ae.len _ _ _ rfl);have EJ:=aa (show X=zh (ti++ [t2]) (jU++ [⟨ie t nm,ty⟩]) (dm c.aK c.aL c.cols (q.items.drop (k+1)) s2) by
    rw[uA.ae,ajd]
    exact QT ti jU t2 ⟨ie t nm,ty⟩ rfl)
   have VG:=rQ.t3.length;clear hr ajd hst pH uz apN rQ Wo bg uT uO uA tN nU hpl Wu Av apL;go_upto_region 31 with fail;open zfp in exact Zc8):p:=h
theorem zcZ.Kax(h:p:=by
 have HP:=aa Gu;have XF:=aa Qs;have aio:=aa lS;have HB:=aa hX;have VJ:=aa fq;have Q7:=aa hP;have b2:=hP.f.z2;unfold eI at b2;have z6:=b2.cell 0;simp only[Uaa] at z6;rw[hn,<- fq] at z6;clear hE hF ih q1 q2 q3 q4 q5 Au Tn C3 hz Nj Gu Qs lS hX hP b2 hn fq;simp only[bJ,fA,Tryz.f28,Option.getD_some];go_wp2_with fail;clear z6;go_loopw [137] (λ i wr=>∃(k:Nat) (rh ri u1 v1:Value) (Jl yi:List Ex) (s1:dy) (ti:List Tr) (jU:List aW),k<=zs.length/\i=af k/\cP c w0 gp g2 (eI q L) g4 g5 D { r with h:=rh,i:=ri } wr u1 v1 Jl s1 (hd++jU) yi [] [] ti [] []/\X=zh ti jU (dm c.aK c.aL c.cols (q.items.drop k) s1)/\s1.aL.length+s1.aJ.length+2*Tr.aQ ((q.items.map (·.1)).drop k)+(2*Tr.aQ q.fq+2*Tr.aQ (q.ord.map (·.1)))<=1000000/\ti.length=k/\jU.length=k) (λ i _=>zs.length - (intOf i).toNat);case atStart=>exact⟨0,r.h,r.i,u,v,ya,[],s,[],[],Nat.zero_le _,rfl,by rw[append_nil];exact Q7.ae,by rw[drop_zero,Wp];exact HB.ae,by rw[drop_zero];exact aio.ae,rfl,rfl⟩
 case round=>
  rename_i K hK;clear Q7;obtain⟨k,rh,ri,u1,v1,Jl,yi,s1,ti,jU,hk,rfl,hP,Tq,lS,Tc,hhl⟩:=hrel;have uA:=aa Tq;have xZ:=aa lS;have Q7:=aa hP;have qC:=aa (And.intro Tc hhl);clear Tq lS hP Tc hhl;by_cases hlt:k < zs.length
  ·have fI:k < q.items.length:=by rw[<- VJ.ae];exact hlt
   obtain⟨b,off,hA,Cg,hcell⟩:∃b off,L.i.A=some ⟨b,off,none⟩/\b < w0.heap.size/\cw w0 b (off+k*8) zs[k].1/\w0.cell? ⟨b,off+k*8+7,none⟩=some zs[k].2:=by
    rcases gX.ae with h |⟨b,off,h1,h2,h3⟩
    ·exact ZeT
    ·exact Zd7
   have hb8:zs[k].2=.string (q.items[k]'fI).2:=by have h1:=congrArg (λ l=>l[k]?) G9.ae;simp only[getElem?_map,getElem?_eq_getElem hlt,getElem?_eq_getElem fI,Option.map_some] at h1;injection h1
   have rI:(q.items[k]'fI).1.at_ w0 (Old w0) zs[k].1:=by
    have hl2:k <((q.items.map λ x=>(x.1,Value.string x.2)).map (·.1)).length:=by simpa using fI
    obtain⟨KK,h1,h2⟩:=pG hl2 HP.ae;exact Ze6
   have fX:(q.items[k]'fI).1.ok:=dM.1 Q1.ae _ (mem_map_of_mem (getElem_mem fI));have Z8:Tr.aQ ((q.items.map (·.1)).drop k)=(q.items[k]'fI).1.nodes+Tr.aQ ((q.items.map (·.1)).drop (k+1)):=by have h1:=uJ (ts:=q.items.map (·.1)) (k:=k) (by simpa using fI);simpa using h1
   have hdr:dm c.aK c.aL c.cols (q.items.drop k) s1=(match oV c.aK c.aL c.cols (q.items[k]'fI).1 s1 with
     | .error e=> .error e
     | .ok (KK,k2,s')=>match dm c.aK c.aL c.cols (q.items.drop (k+1)) s' with
       | .error e=> .error e
       | .ok (ys,hd,Lf)=> .ok (KK::ys,⟨ie (q.items[k]'fI).1 (q.items[k]'fI).2,k2⟩::hd,Lf)):=by
    rw[drop_eq_getElem_cons fI];obtain⟨t,bb⟩:=q.items[k];rfl
   rw[hb8] at hcell;generalize zs[k].1=x at*;generalize (q.items[k]'fI).2=nm at*;generalize (q.items[k]'fI).1=t at*;obtain⟨hex,h7⟩:=hcell;have iE:=hex.keep (λ o=>Q7.ae.f.base.cell (p:=⟨b,o,none⟩) Cg);have h72:=(Q7.ae.f.base.cell (p:=⟨b,off+k*8+7,none⟩) Cg).trans h7;unfold cw at iE;have wW:=aa rI;have kx:=aa fX;have HND:=aa Z8;have uO:=aa hdr;have HAA:=aa hA;rw[hA];clear hex h7 rI fX Z8 hdr hA Cg hb8 fI;go_upto_region 30 with fail;clear iE h72;have rC:=aB.new wr 48 #[ag x.op,ag x.v.k,af x.v.n,.string x.v.s,.string x.name,af x.width,.slice x.A x.n x.c,.string nm];have adS:=ah wr (.cells #[ag x.op,ag x.v.k,af x.v.n,.string x.v.s,.string x.name,af x.width,.slice x.A x.n x.c,.string nm] 48);generalize wr.alloc (.cells #[ag x.op,ag x.v.k,af x.v.n,.string x.v.s,.string x.name,af x.width,.slice x.A x.n x.c,.string nm] 48)=W2 at*;have tN:=aa (Q7.ae.later adS);have Wu:=aa (show sS W2 gp (PR u1 v1 { r with h:=rh,i:=ri }) wr.heap.size from⟨rC.lt,by have:=Q7.ae.f.lt;omega,λ i hi e=>by have:=(Q7.ae.f.rows i hi _ e).2.1;omega⟩);have ajc:=aa (show w0.heap.size<=wr.heap.size/\wr.heap.size≠g2/\wr.heap.size≠g4/\wr.heap.size≠g5/\wr.heap.size≠D from⟨Q7.ae.f.base.size,by have:=Q7.ae.f.k2.1;omega,by have:=Q7.ae.f.k4.1;omega,by have:=Q7.ae.f.k5.1;omega,by have:=Q7.ae.f.kD.1;omega⟩);have apL:=aa (show Tr.aO W2 (λ b=>sS W2 gp (PR u1 v1 { r with h:=rh,i:=ri }) b/\b≠wr.heap.size) ti yi from Tr.aO.keep (λ b hb=>⟨λ o=>adS.cell (p:=⟨b,o,none⟩) hb.1,⟨Nat.lt_of_lt_of_le hb.1 adS.size,hb.2⟩,by have:=hb.1;omega⟩) _ _ Q7.ae.t3)
   generalize wr.heap.size=g16 at*;clear Q7 adS;open zdS in exact ZbX
  ·have fw:k=zs.length:=by omega
   have R8:=aa (show X=.ok (ti,jU,s1) by
    rw[uA.ae,fw,VJ.ae,drop_length]
    show Except.ok (ti++ [],jU++ [],s1)=_
    rw[append_nil,append_nil])
   have avM:(q.items.map (·.1)).drop k=[]:=drop_eq_nil_of_le (by have:=VJ.ae;rw[length_map];omega);subst fw
   have key:∀T:Array Value,T.size=252->T.getD 2 undef=aw g2->T.getD 4 undef=aw g4->T.getD 5 undef=aw g5->T.getD 6 undef=aw gp->(fA bJ 8).wp Tryz.prog Q { tmps:=T,defers:=d } wr:=λ T hT h2 h4 h5 h6=>
    QP c w0 gp g2 g4 g5 D q L { r with h:=rh,i:=ri } u1 v1 Jl s1 (hd++jU) yi ti T hT h2 h4 h5 h6 d wr Q IH.ae Q4.ae Q5.ae oy.ae F2.ae Ag.ae XF.ae (by have:=xZ.ae;rw[avM] at this;omega) Q7.ae
     (λ er a W he hne ha hw=>HE.ae er a W (by
       have h:GR c.aK c.aL c.cols q s1=.error er:=by
        unfold GR
        rcases he with he |⟨th,s',h1,h2⟩
        ·rw[he]
        ·rw[h1]
         dsimp only
         rw[h2]
       unfold wM
       rw[<- HB.ae,R8.ae]
       dsimp only
       rw[h]) hne ha hw)
     (λ a W r' u' v' qf s2 s' yh yo th eF h1 h2 ha hp=>HF.ae a W r' u' v' qf s' jU yi yh yo ti th eF (by
       have h:GR c.aK c.aL c.cols q s1=.ok (th,eF,s'):=by
        unfold GR
        rw[h1]
        dsimp only
        rw[h2]
       unfold wM
       rw[<- HB.ae,R8.ae]
       dsimp only
       rw[h]) ha hp)
   exact Zca):p:=h
theorem zeL.Ka1(h:p:=by
 obtain⟨hn,zs,hz,Nj,Gu⟩:=XS;rw[length_map] at hn;have fq:zs.length=q.items.length:=by have:=congrArg List.length Nj;simpa using this
 obtain⟨X,hX⟩:∃X,X=dm c.aK c.aL c.cols q.items s:=⟨_,rfl⟩;have HE:=aa hE;open zcZ in exact Zbb):p:=h
theorem Wt (c:PC)(w0:World)(gp g2 g4 g5 D:Nat)(q:Qy)(L:QL)(r:Rest)(u v:Value)(ya:List Ex)(s:dy)(hd:List aW)(T:Array Value)(hT:T.size=252)
  (h2:T.getD 2 undef=aw g2) (h4:T.getD 4 undef=aw g4) (h5:T.getD 5 undef=aw g5) (h6:T.getD 6 undef=aw gp) (d:List Deferred) (w:World) (Q:Exit->Act->World->Prop)
  (ih:c.Ok w0) (q1:Tr.cL (q.items.map (·.1))) (XS:eP w0 (q.items.map λ x=>(x.1,.string x.2)) L.i.A L.i.n) (q2:q.items.length<=100000) (q3:hd.length<=100000)
  (q4:Tr.cL q.fq) (q5:gJ w0 q.fq L.h.A L.h.n) (Au:q.fq.length<=1000000) (Tn:Tr.cL (q.ord.map (·.1))) (C3:eP w0 (q.ord.map λ x=>(x.1,.bool x.2)) L.o.A L.o.n) (Qs:q.ord.length<=1000000) (lS:s.aL.length+s.aJ.length+2*Tr.aQ (q.items.map (·.1))+(2*Tr.aQ q.fq+2*Tr.aQ (q.ord.map (·.1)))<=1000000)
  (hP:cP c w0 gp g2 (eI q L) g4 g5 D r w u v ya s hd [] [] [] [] [] [])
  (hE:∀er a W,wM c.aK c.aL c.cols q s=.error er->er≠0->ql a d g4 g5->wL w0 g4 g5 D W->Q .ret a (jk W g4 g5 er))
  (hF:∀a W r' u' v' qf s' uV yi yh yo ti th eF,wM c.aK c.aL c.cols q s=.ok (ti,uV,th,eF,s')->ql a d g4 g5->cP c w0 gp g2 (eI q L) g4 g5 D r' W u' v' qf s' (hd++uV) yi yh yo ti th eF->Q .ret a (ju W g4 g5 gp)):
  (fA bJ 7).wp Tryz.prog Q { tmps:=T,defers:=d } w:=by
 open zeL in exact Zcx
variable{α:Type}{f:α->List Value}{e:TypeId}{base:Nat}
theorem od{size:Nat} :aF f e size w base (az) []:=⟨by simp,.inl ⟨rfl,rfl⟩⟩
section
variable {c:PC} {w0 w:World} {gp g2 g4 g5 D:Nat} {qc:Array Value} {r:Rest} {u v:Value} {ya:List Ex} {s:dy} {hd:List aW} {yi yh yo:List Ex} {ti th eF:List Tr}
theorem cP.apS (h:cP c w0 gp g2 qc g4 g5 D r w u v ya s hd yi yh yo ti th eF):cP c w0 gp g2 qc g4 g5 D { r with h:=az } (w.setCell ⟨gp,12,none⟩ (az)) u v ya s [] yi yh yo ti th eF:=by
 have hf:=λ k (hk:k≠gp)=>Below.heap_setCell w ⟨gp,12,none⟩ (az) k hk
 have p:CQ w0 gp (PR u v r) (PR u v { r with h:=az }) (λ i=>i=2) w (w.setCell ⟨gp,12,none⟩ (az)):=by
  refine⟨rfl,rfl,rfl,by rw[World.size_setCell];exact Nat.le_refl _,λ k h1 h2 h3=>hf k h2,?_,?_,Zfj,?_⟩
  ·intro i hi hT
   match i with
   | 0 | 1 | 3 | 4 | 5=>rfl
   | 2=>exact absurd rfl hT
   | n+6=>omega
  ·intro i hi hT;subst hT;exact .inr λ q hq=>by cases hq
  ·intro i hi hT q hq;subst hT;cases hq
 exact⟨h.f.step p,h.blk.aU 12 _,p.own h.f (i:=0) WC WC h.o0,p.own h.f (i:=1) WC WC h.o1,od,p.own h.f (i:=3) WC WC h.o3,p.own h.f (i:=4) WC WC h.o4,p.own h.f (i:=5) WC WC h.o5,h.aJ,p.trees h.t3,p.trees h.t4,p.trees h.t5⟩
end
def zk (g:Bool)(aL:List Tr)(cols:List aW)(q:Qy)(s:dy):Except Int (List Tr×List aW×List Tr×List Tr×dy):=if q.items=[]/\g=true then .error 42 else wM g aL cols q s
theorem zbS.Kal(h:p:=by go_wp2_with fail;exact HE.ae 42 _ _ HR.ae Taa ⟨rfl,rfl,rfl⟩ HW.ae):p:=h
theorem zeM.Ka1(h:p:=by
 have key:∀(r':Rest) (SX:List aW) (w':World),(q.items=[]->c.aK=false)->SX=(if q.items=[] then hd else [])->cP c w0 gp g2 (eI q L) g4 g5 D r' w' u v ya s SX [] [] [] [] [] []->∀T:Array Value,T.size=252->T.getD 2 undef=aw g2->T.getD 4 undef=aw g4->T.getD 5 undef=aw g5->T.getD 6 undef=aw gp->(fA bJ 7).wp Tryz.prog Q { tmps:=T,defers:=d } w':=λ r' SX w' hg e hp T hT h2 h4 h5 h6=>
  have hR:zk c.aK c.aL c.cols q s=wM c.aK c.aL c.cols q s:=if_neg λ h=>by have h1:=h.2;rw[hg h.1] at h1;cases h1
  Wt c w0 gp g2 g4 g5 D q L r' u v ya s SX T hT h2 h4 h5 h6 d w' Q aZ hqi XS EM (by
   rw[e]
   split
   ·exact S0
   ·exact Nat.zero_le _) R9 hih Dq Tn ui Tp hlen hp (λ er a W he=>hE er a W (hR.trans he)) (λ a W r' u' v' qf s' uV yi yh yo ti th eF he ha hp=>hO a W r' u' v' qf s' uV yi yh yo ti th eF (hR.trans he) ha (e▸hp))
 simp only[bJ,fA,Tryz.f28,Option.getD_some] at key;have b2:=hP.f.z2;have bg:=hP.blk;unfold eI at b2;unfold PC.cells at bg;have c0:=b2.cell 0;have c11:=bg.cell 11;have c12:=bg.cell 12;have f12:=bg.frozen 12;simp only[Uaa] at c0 c11 c12;have hn:L.i.n=q.items.length:=by rw[XS.n,length_map]
 have apT:=hP.f.R5;have HP:=aa hP;have HE:=aa hE;have HW:=aa apT;have KEY:=aa key;rw[hn] at c0;clear hE hO aZ hqi XS S0 R9 hih Dq Tn ui Tp hlen hP b2 bg hn apT key;simp only[bJ,fA,Tryz.f28,Option.getD_some];refine wp_seq_k λ K hK=>?_
 have HK:=aa (show∀(r':Rest) (SX:List aW) (w':World),(q.items=[]->c.aK=false)->SX=(if q.items=[] then hd else [])->cP c w0 gp g2 (eI q L) g4 g5 D r' w' u v ya s SX [] [] [] [] [] []->∀T:Array Value,T.size=252->T.getD 2 undef=aw g2->T.getD 4 undef=aw g4->T.getD 5 undef=aw g5->T.getD 6 undef=aw gp->K { tmps:=T,defers:=d } w' from λ r' SX w' h1 h2 h3 T a1 a2 a3 a4 a5=>hK _ _ (KEY.ae r' SX w' h1 h2 h3 T a1 a2 a3 a4 a5));clear hK KEY
 cases hi:q.items with
 | nil=>
   rw[hi] at c0
   cases hg:c.aK with
   | true=>rw[hg] at c11;have HR:=aa (show zk c.aK c.aL c.cols q s=.error 42 from if_pos ⟨hi,hg⟩);clear hi hg EM;obtain⟨_,_,_,uK,_,_,b4,b5,_⟩:=HW.ae;open zbS in exact ZaC
   | false=>rw[hg] at c11;have HI:=aa hi;have HG:=aa hg;clear hi hg EM;go_wp2_with fail;refine HK.ae r hd w (λ _=>HG.ae) (by rw[if_pos HI.ae]) HP.ae _ ?_ ?_ ?_ ?_ ?_ <;> rfl
 | cons i0 il=>
   rw[hi,length_cons] at c0;have HI:=aa hi;rw[hi,length_cons] at EM;clear hi;have hlt:(0:Int)<((il.length+1:Nat):Int):=by omega
   go_wp2_with fail;refine HK.ae _ [] _ (λ h=>by rw[HI.ae] at h;cases h) (by rw[HI.ae];rfl) HP.ae.apS _ ?_ ?_ ?_ ?_ ?_ <;> rfl):p:=h
theorem S5 (c:PC)(w0:World)(gp g2 g4 g5 D:Nat)(q:Qy)(L:QL)(r:Rest)(u v:Value)(ya:List Ex)(s:dy)(hd:List aW)(T:Array Value)(hT:T.size=252)
  (h2:T.getD 2 undef=aw g2) (h4:T.getD 4 undef=aw g4) (h5:T.getD 5 undef=aw g5) (h6:T.getD 6 undef=aw gp) (d:List Deferred) (w:World) (Q:Exit->Act->World->Prop)
  (aZ:c.Ok w0) (hqi:Tr.cL (q.items.map (·.1))) (XS:eP w0 (q.items.map λ x=>(x.1,.string x.2)) L.i.A L.i.n) (EM:q.items.length<=100000) (S0:hd.length<=100000)
  (R9:Tr.cL q.fq) (hih:gJ w0 q.fq L.h.A L.h.n) (Dq:q.fq.length<=1000000) (Tn:Tr.cL (q.ord.map (·.1))) (ui:eP w0 (q.ord.map λ x=>(x.1,.bool x.2)) L.o.A L.o.n) (Tp:q.ord.length<=1000000) (hlen:s.aL.length+s.aJ.length+2*Tr.aQ (q.items.map (·.1))+(2*Tr.aQ q.fq+2*Tr.aQ (q.ord.map (·.1)))<=1000000)
  (hP:cP c w0 gp g2 (eI q L) g4 g5 D r w u v ya s hd [] [] [] [] [] [])
  (hE:∀er a W,zk c.aK c.aL c.cols q s=.error er->er≠0->ql a d g4 g5->wL w0 g4 g5 D W->Q .ret a (jk W g4 g5 er))
  (hO:∀a W r' u' v' qf s' uV yi yh yo ti th eF,zk c.aK c.aL c.cols q s=.ok (ti,uV,th,eF,s')->ql a d g4 g5->cP c w0 gp g2 (eI q L) g4 g5 D r' W u' v' qf s' ((if q.items=[] then hd else [])++uV) yi yh yo ti th eF->Q .ret a (ju W g4 g5 gp)):
  (fA bJ 6).wp Tryz.prog Q { tmps:=T,defers:=d } w:=by
 open zeM in exact Zcx
def aje (gp B:Nat)(w1:World)(vv:Value)(l:List aW)(nm:ByteArray)(ty:Int)(k:Nat):Nat->World->Value->Prop
 | 0,_,v=>v=aw gp
 | 1,_,v=>v=aw gp
 | 2,_,v=>v=aw gp
 | 3,_,v=>v=ba gp 10
 | 4,_,v=>v=vv
 | 5,_,v=>v=af (k:Int)
 | 6,_,v=>v=.agg #[ag 2,ag 0,af 0,au,.string nm,af 0,az]
 | 7,_,v=>v=.string nm
 | 8,_,v=>v=ag ty
 | 9,_,v=>v=.agg #[.string nm,ag ty]
 | 10,w,v=>∃q:Nat,v=aI q 1 1/\aB w q 113 (aS ⟨nm,ty⟩).toArray/\vv.ownBlock≠some q
 | 11,w,v=>∃q:Value,v=q/\aF aS 113 2 w B q (l++ [⟨nm,ty⟩])/\Mv w1 vv q
 | 12,_,v=>v=aw gp
 | 13,_,v=>v=ba gp 10
 | _,_,_=>False
theorem QU (gp B:Nat)(w1:World)(vv:Value)(l:List aW)(nm:ByteArray)(ty:Int)(k:Nat):∀i w w' x,aje gp B w1 vv l nm ty k i w x->AR aS 113 2 B vv l ⟨nm,ty⟩ w w'->aje gp B w1 vv l nm ty k i w' x:=by
 intro i w w' x h hl
 match i with
 | 0 | 1 | 2 | 3 | 4 | 5 | 6 | 7 | 8 | 9 | 12 | 13=>exact h
 | 10=>exact Zew
 | 11=>exact ZfG
 | n+14=>exact h
def Tu (l:List aW):Except Int (List aW)->Except Int (List aW)
 | .error e=> .error e
 | .ok m=> .ok (l++m)
theorem Ww (x:Except Int (List aW)):Tu [] x=x:=by exact ZgV
theorem QV(l:List aW)(y:aW) {x x':Except Int (List aW)}(h:x'=(match x with | .error e=> .error e | .ok m=> .ok (y::m))):Tu l x'=Tu (l++ [y]) x:=by
 rw[h]
 cases x with
 | error e=>rfl
 | ok p=>show Except.ok (l++y::p)=Except.ok ((l++ [y])++p);rw[append_assoc];rfl
def wN (g:Bool)(aL:List Tr)(cols:List aW)(q:Qy):Except Int (List Tr×List aW×List Tr×List Tr×dy):=
 match kI cols q.aL 0 with
 | .error e=> .error e
 | .ok gc=>zk g aL cols q ⟨[],gc⟩
theorem zbX.Kal(h:p:=by exact ZgO):p:=h
theorem zbq.Kaf(h:p:=by
 clear k1;go_wp2_with fail;clear z0 z1 x2 x3 x4 x5 x6;have wU:=Tr.oM (cols:=c.cols) (CA:=c.cA) (cc:=c.cc) (by have:=IH.ae.cl;omega) t y W2 kx.ae (wW.ae.later tN.ae.f.base) (IH.ae.cols.later tN.ae.f.base);have Jw:=uO.ae;generalize hR:t.type c.cols=R at*;obtain⟨ty,er⟩:=R;dsimp only at Jw wU;refine(wU W2 (ai.refl _)).mono ?_;rintro e w6 ⟨rfl,hb6⟩;have sM:=aa (tN.ae.later hb6);clear wU tN hb6 hR uO;by_cases HW:er=0
 ·subst HW;rw[if_neg Taa] at Jw;have ajg:=aa Jw;clear Jw;obtain⟨nm,iX⟩:∃nm,nm=jb k:=⟨_,rfl⟩;have SB:=aa iX;clear iX;have HK9:=aa (show k < 1000000 by have:=HFN.ae;have:=oy.ae;omega);have HGL:=aa (show s1.aL.length<=1000000 by have:=HK9.ae;have:=qC.ae;omega);obtain⟨VA,vc,hv,_⟩:=sM.ae.o1.reads;subst hv;go_wp2_with fail;obtain⟨WB,hWB⟩:∃WB,WB=w6:=⟨_,rfl⟩;have qm:=sM;clear sM;rw[<- hWB] at qm ⊢;refine fu _ _ (take_append_drop 14 _).symm (AR aS 113 2 w0.heap.size (Value.slice VA s1.aL.length vc) s1.aL ⟨nm,ty⟩) AR.refl (λ _ _ _=>AR.trans) AR.drew (aje gp w0.heap.size WB (Value.slice VA s1.aL.length vc) s1.aL nm ty k) (λ i w w' y h hr=>QU _ _ _ _ _ _ _ _ _ _ _ _ h hr) Va Va Va ?_ ?_
  ·simp only[take_succ_cons,take_zero];refine⟨Zb2,Zb2,Zb2,Ze2,?_,?_,?_,?_,?_,?_,?_,?_,Zb2,Ze2,trivial⟩
   ·intro ρ w3 hc hL hr;have h0:_=_:=hr.1;have jR:=dB qm.ae.blk qm.ae.o1 Taa hL.grown;exact Zdn
   ·intro ρ w3 hc hL hr;have h0:_=_:=hr.1;exact aq (v:=af (k:Int)) (w':=w3) Tai ⟨AR.refl _,rfl⟩
   ·intro ρ w3 hc hL hr;have h0:_=_:=hr.1;have e1:=hc.func 60;refine bu (f:=60) (args:= #[af (k:Int)]) (w':=w3) TaA ?_;refine(oU k WC (by have:=HK9.ae;omega) w3 (IH.ae.env.later (qm.ae.ps.afp hL.grown))).mono ?_;rintro e4 w4 ⟨rfl,b4⟩;refine⟨_,rfl,AR.later b4,?_⟩;show mn (KZ k)=_;unfold mn KZ;rw[SB.ae]
   ·intro ρ w3 hc hL hr;have h0:_=_:=hr.1;have Ht:Sem.run Tryz.prog (Instr.field 46 (.agg #[ag 2,ag 0,af 0,au,.string nm,af 0,az]) 2) w3=.ok (.string nm) w3:=by first | kernel_rfl | rfl
    exact aq (v:=.string nm) (w':=w3) (by simp[go_sem,h0,Ht];done) ⟨AR.refl _,rfl⟩
   ·intro ρ w3 hc hL hr;have h0:_=_:=hr.1;exact aq (v:=ag ty) (w':=w3) Tai ⟨AR.refl _,rfl⟩
   ·intro ρ w3 hc hL hr;have h0:_=_:=hr.1;have h1:_=_:=hr.2.1;exact aq (v:=.agg #[.string nm,ag ty]) (w':=w3) TaM ⟨AR.refl _,rfl⟩
   ·intro ρ w3 hc hL hr;have h0:_=_:=hr.1;refine aq (v:=aI w3.heap.size 1 1) (w':=w3.alloc (.cells #[.string nm,ag ty] 113)) Taq ⟨AR.later (ah w3 _),⟨_,rfl,aB.new w3 _ _,λ e=>?_⟩⟩;have:=((hL.old qm.ae.o1).lt e).1;omega
   ·intro ρ w3 hc hL hr;have h0:_=_:=hr.1;obtain⟨KK,h1,ux,Jj⟩:∃q:Nat,ρ (.tmp 118)=aI q 1 1/\aB w3 q 113 (aS ⟨nm,ty⟩).toArray/\(Value.slice VA s1.aL.length vc).ownBlock≠some q:=hr.2.1;obtain⟨v',w',hrun,ho,yy,En⟩:=eN (P:=Tryz.prog) (w:=w3) 28 28 _ 24 Tryz.underlying28 rD rfl WC (λ _=>rfl) Ta0 (hL.old qm.ae.o1) KK ux (by have:=HGL.ae;show(s1.aL.length+1)*24<=_;omega) (by have:=HGL.ae;show s1.aL.length+1<=_;omega) (Nat.le_trans qm.ae.f.base.size hL.grown.size);exact ZbN
  intro W3 hL;simp only[Uab];rintro a0 - a1 - a2 - a3 - a4 - a5 - a6 - a7 - a8 - a9 - FH - H7 ⟨aCG,rfl,S6,agb⟩ a12 - _ rfl;simp only[bD,Act.put,Uac];obtain⟨A4,Qg,hv4,_⟩:=S6.reads;rw[length_append,length_singleton] at hv4;subst hv4;have O4:=aa S6;have HM4:=aa agb;have H8:=aa hL.grown;have jR:=dB qm.ae.blk qm.ae.o1 Taa hL.grown;have f10:=jR.frozen 10;unfold PC.cells at jR;have c10:=jR.cell 10;simp only[Uaa] at c10;clear S6 agb jR hL;have R7:=aa (qm.ae.call (gL.G6 (gp:=gp) H8.ae HM4.ae (Value.slice A4 (s1.aL.length+1) Qg) 10) (qm.ae.ps.Qb O4.ae H8.ae));clear qm O4 HM4 H8;have hk7:k < 1000000:=HK9.ae;go_wp2_with fail;clear f10 c10;generalize World.setCell W3 _ _=WD at*;go_roundw;case rel=>exact⟨k+1,_,⟨s1.aJ,s1.aL++ [⟨nm,ty⟩]⟩,hlt,by go_num,uA.ae,R7.ae,by
   rw[xZ.ae]
   exact QV s1.aL ⟨nm,ty⟩ (by rw[SB.ae];exact ajg.ae),by
   show(s1.aL++ [_]).length=k+1
   rw[length_append,qC.ae]
   rfl⟩
  case measure=>exact Za0
 ·rw[if_pos HW] at Jw;have ow:=aa (show X=.error er by
   rw[xZ.ae,Jw]
   rfl)
  have t1:(er != 0)=true:=by simp[HW]
  have nE:=aa HW;have HW2:=aa sM.ae.f.R5;clear HW Jw;obtain⟨_,_,_,uK,_,_,b4,b5,_⟩:=HW2.ae;open zbX in exact ZaC):p:=h
theorem zgy.KbH(h:p:=by clear HP Mp;open zbq in exact Zav):p:=h
theorem zh6.Kci(h:p:=by go_upto_region 18 with fail;open zgy in exact Zeo):p:=h
theorem zgM.KbK(h:p:=by
 have oy:=aa Au;have HP:=aa hP;simp only[bJ,fA,Tryz.f28,Option.getD_some] at key;have KEY:=aa key;have b2:=hP.f.z2;unfold eI at b2;have c4:=b2.cell 4;simp only[Uaa] at c4;rw[hn,<- Au] at c4;clear hE hF hO ih q1 q2 hqi XS EM S0 R9 hih Dq Tn ui q3 q4 Tp hlen q5 hP b2 hn Au key;simp only[bJ,fA,Tryz.f28,Option.getD_some];refine wp_seq_k λ K hK=>?_
 have HK:=aa (show∀(gc:List aW) (v':Value) (w':World),X=.ok gc->gc.length<=q.aL.length->cP c w0 gp g2 (eI q L) g4 g5 D r w' u v' [] ⟨[],gc⟩ hd [] [] [] [] [] []->∀T:Array Value,T.size=252->T.getD 2 undef=aw g2->T.getD 4 undef=aw g4->T.getD 5 undef=aw g5->T.getD 6 undef=aw gp->K { tmps:=T,defers:=d } w' from λ gc v' w' h1 h2 h3 T a1 a2 a3 a4 a5=>hK _ _ (KEY.ae gc v' w' h1 h2 h3 T a1 a2 a3 a4 a5));clear hK KEY;go_wp2_with fail;clear c4;go_loopw [94] (λ i wr=>∃(k:Nat) (v1:Value) (s1:dy),k<=zs.length/\i=af k/\s1.aJ=[]/\cP c w0 gp g2 (eI q L) g4 g5 D r wr u v1 [] s1 hd [] [] [] [] [] []/\X=Tu s1.aL (kI c.cols (q.aL.drop k) k)/\s1.aL.length=k) (λ i _=>zs.length - (intOf i).toNat);case atStart=>exact⟨0,v,⟨[],[]⟩,Nat.zero_le _,rfl,rfl,HP.ae,by rw[drop_zero,Ww];exact Q5.ae,rfl⟩
 case round=>
  clear HP;obtain⟨k,v1,s1,hk,rfl,Tq,hP,Qs,Tc⟩:=hrel;have uA:=aa Tq;have xZ:=aa Qs;have HP:=aa hP;have qC:=aa Tc;clear Tq Qs hP Tc;by_cases hlt:k < zs.length
  ·have fI:k < q.aL.length:=by rw[<- oy.ae];exact hlt
   obtain⟨b,off,hA,Cg,hex⟩:∃b off,L.g.A=some ⟨b,off,none⟩/\b < w0.heap.size/\cw w0 b (off+k*7) zs[k]:=by exact Zha
   have rI:(q.aL[k]'fI).at_ w0 (Old w0) zs[k]:=by obtain⟨Kx,h1,h2⟩:=pG fI Q4.ae;rw[getElem?_eq_getElem hlt] at h1;injection h1 with h1;rw[h1];exact h2
   have fX:(q.aL[k]'fI).ok:=dM.1 Q1.ae _ (getElem_mem fI);have Jw:kI c.cols (q.aL.drop k) k=(if ((q.aL[k]'fI).type c.cols).2≠0 then .error ((q.aL[k]'fI).type c.cols).2 else match kI c.cols (q.aL.drop (k+1)) (k+1)with
     | .error e=> .error e
     | .ok l=> .ok (⟨jb k,((q.aL[k]'fI).type c.cols).1⟩::l)):=by
    rw[drop_eq_getElem_cons fI];rfl
   generalize zs[k]=y at*;generalize (q.aL[k]'fI)=t at*;open zh6 in exact Zgm
  ·have GH:k=zs.length:=by omega
   have R8:=aa (show X=.ok s1.aL by
    rw[xZ.ae,GH,oy.ae,drop_length]
    show Except.ok (s1.aL++ [])=_
    rw[append_nil])
   have HPZ:=aa (show cP c w0 gp g2 (eI q L) g4 g5 D r wr u v1 [] ⟨[],s1.aL⟩ hd [] [] [] [] [] [] by
    have h:=HP.ae
    obtain⟨sa,sg⟩:=s1
    have h2:sa=[]:=uA.ae
    rw[h2] at h
    exact h)
   subst GH;go_wp2_with fail;refine HK.ae s1.aL v1 wr R8.ae (by have:=qC.ae;have:=oy.ae;omega) HPZ.ae _ ?_ ?_ ?_ ?_ ?_ <;> rfl):p:=h
theorem zfa.Ka9(h:p:=by
 obtain⟨hn,zs,q3,q4⟩:=hig;have Au:zs.length=q.aL.length:=q4.length;obtain⟨X,q5⟩:∃X,X=kI c.cols q.aL 0:=⟨_,rfl⟩
 have key:∀(gc:List aW) (v':Value) (w':World),X=.ok gc->gc.length<=q.aL.length->cP c w0 gp g2 (eI q L) g4 g5 D r w' u v' [] ⟨[],gc⟩ hd [] [] [] [] [] []->∀T:Array Value,T.size=252->T.getD 2 undef=aw g2->T.getD 4 undef=aw g4->T.getD 5 undef=aw g5->T.getD 6 undef=aw gp->(fA bJ 6).wp Tryz.prog Q { tmps:=T,defers:=d } w':=λ gc v' w' hx zT hp T hT h2 h4 h5 h6=>
  have hR:wN c.aK c.aL c.cols q=zk c.aK c.aL c.cols q ⟨[],gc⟩:=by unfold wN;rw[<- q5,hx]
  S5 c w0 gp g2 g4 g5 D q L r u v' [] ⟨[],gc⟩ hd T hT h2 h4 h5 h6 d w' Q ih hqi XS EM S0 R9 hih Dq Tn ui Tp (by show gc.length+0+_+_<=_;omega) hp (λ er a W he=>hE er a W (hR.trans he)) (λ a W r' u' v' qf s' uV yi yh yo ti th eF he ha hp=>hO a W r' u' v' qf s' uV yi yh yo ti th eF (hR.trans he) ha hp)
 have hF:∀er a W,X=.error er->er≠0->ql a d g4 g5->wL w0 g4 g5 D W->Q .ret a (jk W g4 g5 er):=λ er a W hx=>hE er a W (by
  unfold wN
  rw[<- q5,hx])
 open zgM in exact Zer):p:=h
theorem Wx (c:PC)(w0:World)(gp g2 g4 g5 D:Nat)(q:Qy)(L:QL)(r:Rest)(u v:Value)(hd:List aW)(T:Array Value)(hT:T.size=252)
  (h1:T.getD 1 undef=.slice c.cA c.cols.length c.cc) (h2:T.getD 2 undef=aw g2) (h4:T.getD 4 undef=aw g4) (h5:T.getD 5 undef=aw g5) (h6:T.getD 6 undef=aw gp) (d:List Deferred) (w:World) (Q:Exit->Act->World->Prop)
  (ih:c.Ok w0) (q1:Tr.cL q.aL) (hig:gJ w0 q.aL L.g.A L.g.n) (q2:q.aL.length<=100000) (hqi:Tr.cL (q.items.map (·.1))) (XS:eP w0 (q.items.map λ y=>(y.1,.string y.2)) L.i.A L.i.n) (EM:q.items.length<=100000) (S0:hd.length<=100000)
  (R9:Tr.cL q.fq) (hih:gJ w0 q.fq L.h.A L.h.n) (Dq:q.fq.length<=1000000) (Tn:Tr.cL (q.ord.map (·.1))) (ui:eP w0 (q.ord.map λ y=>(y.1,.bool y.2)) L.o.A L.o.n) (Tp:q.ord.length<=1000000) (hlen:q.aL.length+2*Tr.aQ (q.items.map (·.1))+(2*Tr.aQ q.fq+2*Tr.aQ (q.ord.map (·.1)))<=1000000)
  (hP:cP c w0 gp g2 (eI q L) g4 g5 D r w u v [] ⟨[],[]⟩ hd [] [] [] [] [] [])
  (hE:∀er a W,wN c.aK c.aL c.cols q=.error er->er≠0->ql a d g4 g5->wL w0 g4 g5 D W->Q .ret a (jk W g4 g5 er))
  (hO:∀a W r' u' v' qf s' uV yi yh yo ti th eF,wN c.aK c.aL c.cols q=.ok (ti,uV,th,eF,s')->ql a d g4 g5->cP c w0 gp g2 (eI q L) g4 g5 D r' W u' v' qf s' ((if q.items=[] then hd else [])++uV) yi yh yo ti th eF->Q .ret a (ju W g4 g5 gp)):
  (fA bJ 5).wp Tryz.prog Q { tmps:=T,defers:=d } w:=by
 open zfa in exact ZcV
def wO (g:Bool)(aL:List Tr)(cols:List aW)(q:Qy):Except Int (List Tr×List aW×List Tr×List Tr×dy):=
 match oX cols q.bT with
 | .error e=> .error e
 | .ok _=>wN g aL cols q
structure PlQ (c:PC) (w0:World) (q:Qy) (L:QL) (hd:List aW):Prop where
 ok:c.Ok w0
 qw:Tr.cL q.bT
 iw:gJ w0 q.bT L.w.A L.w.n
 nw:q.bT.length<=100000
 qg:Tr.cL q.aL
 ig:gJ w0 q.aL L.g.A L.g.n
 ng:q.aL.length<=100000
 qi:Tr.cL (q.items.map (·.1))
 ii:eP w0 (q.items.map λ x=>(x.1,.string x.2)) L.i.A L.i.n
 ni:q.items.length<=100000
 nh:hd.length<=100000
 qh:Tr.cL q.fq
 ih:gJ w0 q.fq L.h.A L.h.n
 nhv:q.fq.length<=100000
 qo:Tr.cL (q.ord.map (·.1))
 io:eP w0 (q.ord.map λ x=>(x.1,.bool x.2)) L.o.A L.o.n
 no:q.ord.length<=1000000
 len:q.aL.length+2*Tr.aQ (q.items.map (·.1))+(2*Tr.aQ q.fq+2*Tr.aQ (q.ord.map (·.1)))<=1000000
theorem zbY.Kal(h:p:=by exact ZgO):p:=h
theorem zbr.Kaf(h:p:=by
 clear k1;go_wp2_with fail;clear z0 z1 x2 x3 x4 x5 x6;have wU:=Tr.oM (cols:=c.cols) (CA:=c.cA) (cc:=c.cc) (by have:=HFN.ae.ok.cl;omega) t y W2 kx.ae (wW.ae.later tN.ae.f.base) (HFN.ae.ok.cols.later tN.ae.f.base);have Jw:=uO.ae;generalize hR:t.type c.cols=R at*;obtain⟨ty,KK⟩:=R;dsimp only at Jw wU;refine(wU W2 (ai.refl _)).mono ?_;rintro e w6 ⟨rfl,hb6⟩;have HP6:=aa (tN.ae.later hb6);have JS:=aa Jw;clear wU tN hb6 hR uO Jw;go_wp2_with fail;refine(tX ty KK w6).mono ?_;rintro e w7 ⟨rfl,Nw⟩;have sM:=aa (HP6.ae.later Nw);have Jw:=JS.ae;clear HP6 Nw JS;generalize nr (ty,KK)=er at*;by_cases HW:er=0
 ·subst HW;rw[if_neg Taa] at Jw;have ajg:=aa Jw;clear Jw;have hk7:k < 1000000:=by have:=HFN.ae.nw;have:=oy.ae;omega
  go_wp2_with fail;go_roundw;case rel=>exact⟨k+1,hlt,by go_num,sM.ae,DU.ae.trans ajg.ae⟩
  case measure=>exact Za0
 ·rw[if_pos HW] at Jw;have ow:=aa (show X=.error er from DU.ae.trans Jw);have t1:(er != 0)=true:=by simp[HW]
  have nE:=aa HW;have HW2:=aa sM.ae.f.R5;clear HW Jw;obtain⟨_,_,_,uK,_,_,b4,b5,_⟩:=HW2.ae;open zbY in exact ZaC):p:=h
theorem zgz.KbH(h:p:=by clear HP Mp;open zbr in exact Zav):p:=h
theorem zh5.Kci(h:p:=by go_upto_region 11 with fail;open zgz in exact Zeo):p:=h
theorem zfb.Ka9(h:p:=by
 obtain⟨hn,zs,q3,q4⟩:=q2.iw;have Au:zs.length=q.bT.length:=q4.length;obtain⟨X,q5⟩:∃X,X=oX c.cols q.bT:=⟨_,rfl⟩
 have key:∀(w':World),X=.ok ()->cP c w0 gp g2 (eI q L) g4 g5 D r w' u v [] ⟨[],[]⟩ hd [] [] [] [] [] []->∀T:Array Value,T.size=252->T.getD 1 undef=.slice c.cA c.cols.length c.cc->T.getD 2 undef=aw g2->T.getD 4 undef=aw g4->T.getD 5 undef=aw g5->T.getD 6 undef=aw gp->(fA bJ 5).wp Tryz.prog Q { tmps:=T,defers:=d } w':=λ w' hx hp T hT h1 h2 h4 h5 h6=>
  have hR:wO c.aK c.aL c.cols q=wN c.aK c.aL c.cols q:=by unfold wO;rw[<- q5,hx]
  Wx c w0 gp g2 g4 g5 D q L r u v hd T hT h1 h2 h4 h5 h6 d w' Q q2.ok q2.qg q2.ig q2.ng q2.qi q2.ii q2.ni q2.nh q2.qh q2.ih (by have:=q2.nhv;omega) q2.qo q2.io q2.no q2.len hp (λ KK a W he=>hE KK a W (hR.trans he)) (λ a W r' u' v' qf s' uV yi yh yo ti th eF he ha hp=>hO a W r' u' v' qf s' uV yi yh yo ti th eF (hR.trans he) ha hp)
 have hE2:∀KK a W,X=.error KK->KK≠0->ql a d g4 g5->wL w0 g4 g5 D W->Q .ret a (jk W g4 g5 KK):=λ KK a W hx=>hE KK a W (by
  unfold wO
  rw[<- q5,hx])
 have HF:=aa hE2;have HFN:=aa q2;have Q3:=aa q3;have Q4:=aa q4;have Q5:=aa q5;have oy:=aa Au;have HP:=aa hP;simp only[bJ,fA,Tryz.f28,Option.getD_some] at key;have KEY:=aa key;have b2:=hP.f.z2;unfold eI at b2;have c3:=b2.cell 3;simp only[Uaa] at c3;rw[hn,<- Au] at c3;clear hE hE2 hO q2 q3 q4 q5 hP b2 hn Au key;simp only[bJ,fA,Tryz.f28,Option.getD_some];refine wp_seq_k λ K hK=>?_
 have HK:=aa (show∀(w':World),X=.ok ()->cP c w0 gp g2 (eI q L) g4 g5 D r w' u v [] ⟨[],[]⟩ hd [] [] [] [] [] []->∀T:Array Value,T.size=252->T.getD 1 undef=.slice c.cA c.cols.length c.cc->T.getD 2 undef=aw g2->T.getD 4 undef=aw g4->T.getD 5 undef=aw g5->T.getD 6 undef=aw gp->K { tmps:=T,defers:=d } w' from λ w' h1 h3 T a0 a1 a2 a3 a4 a5=>hK _ _ (KEY.ae w' h1 h3 T a0 a1 a2 a3 a4 a5));clear hK KEY;go_wp2_with fail;clear c3;go_loopw [77] (λ i wr=>∃(k:Nat),k<=zs.length/\i=af k/\cP c w0 gp g2 (eI q L) g4 g5 D r wr u v [] ⟨[],[]⟩ hd [] [] [] [] [] []/\X=oX c.cols (q.bT.drop k)) (λ i _=>zs.length - (intOf i).toNat);case atStart=>exact⟨0,Nat.zero_le _,rfl,HP.ae,by rw[drop_zero];exact Q5.ae⟩
 case round=>
  clear HP;obtain⟨k,hi,rfl,hP,hlk⟩:=hrel;have DU:=aa hlk;have HP:=aa hP;clear hlk hP;by_cases hlt:k < zs.length
  ·have fI:k < q.bT.length:=by rw[<- oy.ae];exact hlt
   obtain⟨b,off,hA,Cg,hex⟩:∃b off,L.w.A=some ⟨b,off,none⟩/\b < w0.heap.size/\cw w0 b (off+k*7) zs[k]:=by exact Zha
   have rI:(q.bT[k]'fI).at_ w0 (Old w0) zs[k]:=by obtain⟨Kx,h1,h2⟩:=pG fI Q4.ae;rw[getElem?_eq_getElem hlt] at h1;injection h1 with h1;rw[h1];exact h2
   have fX:(q.bT[k]'fI).ok:=dM.1 HFN.ae.qw _ (getElem_mem fI);have Jw:oX c.cols (q.bT.drop k)=(if nr ((q.bT[k]'fI).type c.cols)≠0 then .error (nr ((q.bT[k]'fI).type c.cols))else oX c.cols (q.bT.drop (k+1))):=by rw[drop_eq_getElem_cons fI];rfl
   generalize zs[k]=y at*;generalize (q.bT[k]'fI)=t at*;open zh5 in exact Zgm
  ·have GH:k=zs.length:=by omega
   have R8:=aa (show X=.ok () by
    rw[DU.ae,GH,oy.ae,drop_length]
    rfl)
   subst GH;go_wp2_with fail;refine HK.ae wr R8.ae HP.ae _ ?_ ?_ ?_ ?_ ?_ ?_ <;> rfl):p:=h
theorem Wy (c:PC)(w0:World)(gp g2 g4 g5 D:Nat)(q:Qy)(L:QL)(r:Rest)(u v:Value)(hd:List aW)(T:Array Value)(hT:T.size=252)
  (h1:T.getD 1 undef=.slice c.cA c.cols.length c.cc) (h2:T.getD 2 undef=aw g2) (h4:T.getD 4 undef=aw g4) (h5:T.getD 5 undef=aw g5) (h6:T.getD 6 undef=aw gp) (d:List Deferred) (w:World) (Q:Exit->Act->World->Prop)
  (q2:PlQ c w0 q L hd)
  (hP:cP c w0 gp g2 (eI q L) g4 g5 D r w u v [] ⟨[],[]⟩ hd [] [] [] [] [] [])
  (hE:∀KK a W,wO c.aK c.aL c.cols q=.error KK->KK≠0->ql a d g4 g5->wL w0 g4 g5 D W->Q .ret a (jk W g4 g5 KK))
  (hO:∀a W r' u' v' qf s' uV yi yh yo ti th eF,wO c.aK c.aL c.cols q=.ok (ti,uV,th,eF,s')->ql a d g4 g5->cP c w0 gp g2 (eI q L) g4 g5 D r' W u' v' qf s' ((if q.items=[] then hd else [])++uV) yi yh yo ti th eF->Q .ret a (ju W g4 g5 gp)):
  (fA bJ 4).wp Tryz.prog Q { tmps:=T,defers:=d } w:=by
 open zfb in exact ZcV
open Go.Shelf
theorem adU (q:Qy)(L:QL)(w:World):ar 56 #[mM q L] w λ e w'=>∃g,e=.returned (.func (.func 96) #[] #[aw g])/\aB w' g 27 (eI q L)/\w.heap.size<=g/\aj w w':=by have bb:=ah w (.cells (eI q L) 27);have HX:=aB.new w 27 (eI q L);unfold mM;unfold eI at*;go_enter Tryz.func56,Tryz.ntmps56;go_wp2_with fail;go_ret;exact⟨w.heap.size,rfl,HX,Nat.le_refl _,bb⟩
attribute [local go_sem] Oper.semAt_some
def dD (D:Nat):List Deferred:=[{ target:=.collected D,args:= #[] }]
def rS (g:Bool)(aL:List Tr)(cols:List aW)(q:Qy):Except Int (List Tr×List aW×List Tr×List Tr×dy):=
 if q.all.any (λ t=>decide (32 < t.depth))=true then .error 1 else wO g aL cols q
structure Ae (c:PC) (w0:World) (q:Qy) (L:QL) (hd:List aW):Prop where
 ok:c.Ok w0
 qw:Tr.cL q.bT
 iw:gJ w0 q.bT L.w.A L.w.n
 nw:q.bT.length<=100000
 qg:Tr.cL q.aL
 ig:gJ w0 q.aL L.g.A L.g.n
 ng:q.aL.length<=100000
 qi:Tr.cL (q.items.map (·.1))
 ii:eP w0 (q.items.map λ x=>(x.1,.string x.2)) L.i.A L.i.n
 ni:q.items.length<=100000
 nh:hd.length<=100000
 qh:Tr.cL q.fq
 ih:gJ w0 q.fq L.h.A L.h.n
 nhv:q.fq.length<=100000
 qo:Tr.cL (q.ord.map (·.1))
 io:eP w0 (q.ord.map λ x=>(x.1,.bool x.2)) L.o.A L.o.n
 no:q.ord.length<=1000000
 len:q.all.any (λ t=>decide (32 < t.depth))=false->q.aL.length+2*Tr.aQ (q.items.map (·.1))+(2*Tr.aQ q.fq+2*Tr.aQ (q.ord.map (·.1)))<=1000000
variable{q:Qy}{L:QL}
theorem Ae.full(h:Ae c w0 q L hd)(hx:q.all.any (λ t=>decide (32 < t.depth))=false):PlQ c w0 q L hd:=
 ⟨h.ok,h.qw,h.iw,h.nw,h.qg,h.ig,h.ng,h.qi,h.ii,h.ni,h.nh,h.qh,h.ih,h.nhv,h.qo,h.io,h.no,h.len hx⟩
theorem S7(hq:Ae c w0 q L hd)(n:Nat)(hn:1<=n)(w:World)(gq:Nat)(hb:aB w gq 27 (eI q L))(hw:aj w0 w):
  ∃LL:List (QE w0),LL.map (λ x=>x.1.2)=q.all/\SeqStopsK Fence.wide n Tryz.prog 96 #[aw gq] Qm Fr (λ ys=>ys=LL) (λ pre=>pre <+: LL) LL.length w:=by
 obtain⟨ni,zs,hzi,Nj,apZ⟩:=hq.ii;obtain⟨no,zo,hzo,aqa,aqb⟩:=hq.io;obtain⟨nw,yw,hyw,ajh⟩:=hq.iw;obtain⟨ng,yg,hyg,aji⟩:=hq.ig;obtain⟨nh,yh,hyh,ajj⟩:=hq.ih;rw[length_map] at ni no;have e1:(q.items.map λ x=>(x.1,Value.string x.2)).map (·.1)=q.items.map (·.1):=by simp
 have e2:(q.ord.map λ x=>(x.1,Value.bool x.2)).map (·.1)=q.ord.map (·.1):=by simp
 rw[e1] at apZ;rw[e2] at aqb;obtain⟨Li,l1,l2⟩:=Az _ _ hq.qi apZ;obtain⟨Lc,l3,l4⟩:=Az (q.bT++q.aL++q.fq) (yw++yg++yh) (dM.2 λ t ht=>by
  rcases List.mem_append.1 ht with ht | ht
  ·rcases List.mem_append.1 ht with ht | ht
   ·exact dM.1 hq.qw t ht
   ·exact dM.1 hq.qg t ht
  ·exact dM.1 hq.qh t ht) (Tr.all_append (Tr.all_append ajh aji) ajj)
 obtain⟨Lo,l5,l6⟩:=Az _ _ hq.qo aqb;refine⟨Li++Lc++Lo,by unfold Qy.all;rw[map_append,map_append,l2,l4,l6],?_⟩;have fq:zs.length=q.items.length:=by have:=congrArg List.length Nj;simpa using this
 have fI:zo.length=q.ord.length:=by have:=congrArg List.length aqa;simpa using this
 intro l J Jx W hW hJ hJx hY h0
 have:=acM w0 n hn l gq q L zs zo yw yg yh Li Lc Lo hzi hzo hyw.old hyg.old hyh.old WC WC (by rw[nw,ajh.length]) (by rw[ng,aji.length]) (by rw[nh,ajj.length]) l1 l5 l3
  (λ z hz=>by
    have h1:z.2∈zs.map (·.2):=mem_map_of_mem hz
    rw[Nj] at h1
    obtain⟨a,ha,hb⟩:=List.mem_map.1 h1
    obtain⟨a2,_,rfl⟩:=List.mem_map.1 ha
    exact⟨_,hb.symm⟩)
  (λ z hz=>by
    have h1:z.2∈zo.map (·.2):=mem_map_of_mem hz
    rw[aqa] at h1
    obtain⟨a,ha,hb⟩:=List.mem_map.1 h1
    obtain⟨a2,_,rfl⟩:=List.mem_map.1 ha
    exact⟨_,hb.symm⟩)
  ⟨by have:=hq.ni;omega,by have:=hq.no;omega,by
    have a1:=hq.nw
    have a2:=hq.ng
    have a3:=hq.nhv
    have b1:=ajh.length
    have b2:=aji.length
    have b3:=ajj.length
    rw[length_append,length_append]
    omega⟩ J Jx W hJ hY (hb.later hW) ((Fr.below hw).trans (Fr.below hW)) h0
 exact this
attribute [local go_sem] Oper.semAt_some
def zl(x:QE w0):Bool:=decide (32 < x.1.2.depth)
def ajk (w0:World)(g4 g5:Nat)(W:World):Prop:=aj w0 W/\aB W g4 72 #[.pointer none]/\aB W g5 34 #[af 1]
def JB:Code->Code
 | .seq (.seq _ (.block _ c)) _=>c
 | _=> .skip
noncomputable def QW:Code:=JB (fA bJ 3)
variable{W':World}{row:Option Nat}
theorem Dt(h:aB W g t cs)(hg:W.grownBy W' row)(hr:∀r,row=some r->∃o:Obj,W.heap[r]?=some o/\o.isCells=false):aB W' g t cs:=h.grown hg λ e=>by obtain⟨o,h1,h2⟩:=hr g e.symm;rw[h] at h1;injection h1 with h1;rw[<- h1] at h2;cases h2
theorem zds.KaE(h:p:=by
 clear rC;gi_wp2_with (refine⟨trivial,?_⟩;gi_at_call 57;refine(CallsIn.inRound l (callsIn_wide.2 ajl)).mono ?_;rintro e W2 ⟨rfl,hb2⟩;clear ajl;have c4:=(H4.ae.later hb2).cell 0;have c5:=((H5.ae.later hb2).far (p:=⟨g4,0,none⟩) (Ne.symm Ar) (.pointer none)).cell 0;have f4:=(H4.ae.later hb2).frozen 0;have f5:=((H5.ae.later hb2).far (p:=⟨g4,0,none⟩) (Ne.symm Ar) (.pointer none)).frozen 0;simp only[getElem?_toArray,getElem?_cons_zero] at c4 c5)
 ·rename_i hdp;have hx:zl x=true:=by unfold zl;first | exact decide_eq_true WC| simpa using hdp
  refine⟨?_,rfl,by rw[any_append,any_cons,hx];simp,?_⟩
  ·exact(((KeepsOthers.of_grownBy (nA hb2) (λ _ _ e _=>by cases e)).trans (KeepsOthers.setCell _ _ _)).trans (KeepsOthers.setCell _ _ _)).from _
  ·refine⟨((Below.trans hb ((HI1.ae.mono hb.size).trans (hb2.mono (Nat.le_trans hb.size HI1.ae.size)))).setCell hl4 _).setCell hl5 _,?_,?_⟩
   ·exact(((H4.ae.later hb2).aU 0 _).far (p:=⟨g5,0,none⟩) Ar _)
   ·exact(((H5.ae.later hb2).far (p:=⟨g4,0,none⟩) (Ne.symm Ar) _).aU 0 _)
 ·rename_i hdp;have hx:zl x=false:=by unfold zl;first | exact decide_eq_false WC| simpa using hdp
  exact⟨(KeepsOthers.of_grownBy (nA hb2) (λ _ _ e _=>by cases e)).from _,Fr.below hb2,HI1.ae.trans (hb2.mono HI1.ae.size),by rw[any_append,any_cons,hx,HI2.ae];rfl⟩):p:=h
theorem Wz (w0 w1:World)(LL:List (QE w0))(gq g4 g5:Nat)(T:Array Value)(hT:T.size=252)(h4:T.getD 4 undef=aw g4)(h5:T.getD 5 undef=aw g5)(h69:T.getD 69 undef=.func (.func 96) #[] #[aw gq])
  (hseq:SeqStopsK Fence.wide 3 Tryz.prog 96 #[aw gq] Qm Fr (λ ys=>ys=LL) (λ pre=>pre <+: LL) LL.length w1)
  (hb:aj w0 w1) (hb4:aB w1 g4 72 #[.pointer none]) (Iq:aB w1 g5 34 #[af 0]) (Ar:g4≠g5) (hl4:w0.heap.size<=g4) (hl5:w0.heap.size<=g5) (Q:Exit->Act->World->Prop)
  (hdone:∀D W,aj w1 W->w1.heap.size<=D->W.heap[D]?=some (.deferred (some []))->LL.any zl=false->Q .normal { tmps:=T,defers:=[{ target:=.collected D,args:= #[] }] } W)
  (Tv:∀D W,w1.heap.size<=D->LL.any zl=true->ajk w0 g4 g5 W->W.heap[D]?=some (.deferred (some []))->Q .ret { tmps:=T,defers:=[{ target:=.collected D,args:= #[] }] } W):
  QW.wp Tryz.prog Q { tmps:=T,defers:=[] } w1:=by
 obtain⟨f,rfl⟩:=kP T hT;have h4:f 4=_:=h4;have h5:f 5=_:=h5;have h69:f 69=_:=h69;have nS:bS f= #[f 0,f 1,f 2,f 3,aw g4,aw g5,f 6,f 7,f 8,f 9,f 10,f 11,f 12,f 13,f 14,f 15,f 16,f 17,f 18,f 19,f 20,f 21,f 22,f 23,f 24,f 25,f 26,f 27,f 28,f 29,f 30,f 31,f 32,f 33,f 34,f 35,f 36,f 37,f 38,f 39,f 40,f 41,f 42,f 43,f 44,f 45,f 46,f 47,f 48,f 49,f 50,f 51,f 52,f 53,f 54,f 55,f 56,f 57,f 58,f 59,f 60,f 61,f 62,f 63,f 64,f 65,f 66,f 67,f 68,.func (.func 96) #[] #[aw gq],f 70,f 71,f 72,f 73,f 74,f 75,f 76,f 77,f 78,f 79,f 80,f 81,f 82,f 83,f 84,f 85,f 86,f 87,f 88,f 89,f 90,f 91,f 92,f 93,f 94,f 95,f 96,f 97,f 98,f 99,f 100,f 101,f 102,f 103,f 104,f 105,f 106,f 107,f 108,f 109,f 110,f 111,f 112,f 113,f 114,f 115,f 116,f 117,f 118,f 119,f 120,f 121,f 122,f 123,f 124,f 125,f 126,f 127,f 128,f 129,f 130,f 131,f 132,f 133,f 134,f 135,f 136,f 137,f 138,f 139,f 140,f 141,f 142,f 143,f 144,f 145,f 146,f 147,f 148,f 149,f 150,f 151,f 152,f 153,f 154,f 155,f 156,f 157,f 158,f 159,f 160,f 161,f 162,f 163,f 164,f 165,f 166,f 167,f 168,f 169,f 170,f 171,f 172,f 173,f 174,f 175,f 176,f 177,f 178,f 179,f 180,f 181,f 182,f 183,f 184,f 185,f 186,f 187,f 188,f 189,f 190,f 191,f 192,f 193,f 194,f 195,f 196,f 197,f 198,f 199,f 200,f 201,f 202,f 203,f 204,f 205,f 206,f 207,f 208,f 209,f 210,f 211,f 212,f 213,f 214,f 215,f 216,f 217,f 218,f 219,f 220,f 221,f 222,f 223,f 224,f 225,f 226,f 227,f 228,f 229,f 230,f 231,f 232,f 233,f 234,f 235,f 236,f 237,f 238,f 239,f 240,f 241,f 242,f 243,f 244,f 245,f 246,f 247,f 248,f 249,f 250,f 251]:=by simp only[bS,h4,h5,h69]
 rw[nS] at hdone Tv ⊢;clear nS h4 h5 h69;clear h4 h5 h69 hT;have HD:=aa hdone;have HS:=aa Tv;have S8:=hseq;simp only[QW,JB,bJ,fA,Tryz.f28,Option.getD_some];refine(wpIn_wide (n:=4)).1 ?_
 refine wpIn_rangeFunc_ownH rfl WC (gf:=96) (lb:= #[aw gq]) rfl trivial (enters_of Tryz.func96 Va rfl) S8 (λ h k=>Fr.trans h k) (λ W l ob ob' _ h1 h2 _=>Fr.putObj W l ob ob' h1 h2) (Below.refl _ _) (λ _=>rfl)
  (λ pre W=>aj w1 W/\pre.any zl=false)
  (λ cd pre W=>cd=.ret/\pre.any zl=true/\ajk w0 g4 g5 W)
  ?hI ?hIx ?h0
  (λ x a' W=>∃g7,aB W g7 46 (bF x.1.1).toArray/\a'= { tmps:= #[f 0,f 1,f 2,f 3,aw g4,aw g5,f 6,aw g7,f 8,f 9,f 10,f 11,f 12,f 13,f 14,f 15,f 16,f 17,f 18,f 19,f 20,f 21,f 22,f 23,f 24,f 25,f 26,f 27,f 28,f 29,f 30,f 31,f 32,f 33,f 34,f 35,f 36,f 37,f 38,f 39,f 40,f 41,f 42,f 43,f 44,f 45,f 46,f 47,f 48,f 49,f 50,f 51,f 52,f 53,f 54,f 55,f 56,f 57,f 58,f 59,f 60,f 61,f 62,f 63,f 64,f 65,f 66,f 67,f 68,.func (.func 96) #[] #[aw gq],(.agg (bF x.1.1).toArray),f 71,f 72,f 73,f 74,f 75,f 76,f 77,f 78,f 79,f 80,f 81,f 82,f 83,f 84,f 85,f 86,f 87,f 88,f 89,f 90,f 91,f 92,f 93,f 94,f 95,f 96,f 97,f 98,f 99,f 100,f 101,f 102,f 103,f 104,f 105,f 106,f 107,f 108,f 109,f 110,f 111,f 112,f 113,f 114,f 115,f 116,f 117,f 118,f 119,f 120,f 121,f 122,f 123,f 124,f 125,f 126,f 127,f 128,f 129,f 130,f 131,f 132,f 133,f 134,f 135,f 136,f 137,f 138,f 139,f 140,f 141,f 142,f 143,f 144,f 145,f 146,f 147,f 148,f 149,f 150,f 151,f 152,f 153,f 154,f 155,f 156,f 157,f 158,f 159,f 160,f 161,f 162,f 163,f 164,f 165,f 166,f 167,f 168,f 169,f 170,f 171,f 172,f 173,f 174,f 175,f 176,f 177,f 178,f 179,f 180,f 181,f 182,f 183,f 184,f 185,f 186,f 187,f 188,f 189,f 190,f 191,f 192,f 193,f 194,f 195,f 196,f 197,f 198,f 199,f 200,f 201,f 202,f 203,f 204,f 205,f 206,f 207,f 208,f 209,f 210,f 211,f 212,f 213,f 214,f 215,f 216,f 217,f 218,f 219,f 220,f 221,f 222,f 223,f 224,f 225,f 226,f 227,f 228,f 229,f 230,f 231,f 232,f 233,f 234,f 235,f 236,f 237,f 238,f 239,f 240,f 241,f 242,f 243,f 244,f 245,f 246,f 247,f 248,f 249,f 250,f 251],defers:=[] })
  ?hAx ?assign ?body ?done ?stop
 case hI=>exact λ s W W' row hs hg hr=>⟨hs.1.grown hg hs.1.size (λ k e=>(hr k e).1),hs.2⟩
 case hIx=>exact λ cd s W W' row hs hg hr=>⟨hs.1,hs.2.1,hs.2.2.1.grown hg hs.2.2.1.size (λ k e=>Nat.le_trans hb.size (hr k e).1),Dt hs.2.2.2.1 hg (λ r e=>(hr r e).2),Dt hs.2.2.2.2 hg (λ r e=>(hr r e).2)⟩
 case h0=>exact⟨Below.refl _ _,rfl⟩
 case hAx=>rintro x a' s W W' row ⟨g7,h1,h2⟩ hg hr;exact⟨g7,Dt h1 hg (λ r e=>(hr r e).2),h2⟩
 case assign=>
  rintro l pre x W K ⟨hi1,Gl⟩ hK;have hbn:=aB.new W 46 (bF x.1.1).toArray;have bbn:=ah W (.cells (bF x.1.1).toArray 46);have hK2:=hK { tmps:= #[f 0,f 1,f 2,f 3,aw g4,aw g5,f 6,aw W.heap.size,f 8,f 9,f 10,f 11,f 12,f 13,f 14,f 15,f 16,f 17,f 18,f 19,f 20,f 21,f 22,f 23,f 24,f 25,f 26,f 27,f 28,f 29,f 30,f 31,f 32,f 33,f 34,f 35,f 36,f 37,f 38,f 39,f 40,f 41,f 42,f 43,f 44,f 45,f 46,f 47,f 48,f 49,f 50,f 51,f 52,f 53,f 54,f 55,f 56,f 57,f 58,f 59,f 60,f 61,f 62,f 63,f 64,f 65,f 66,f 67,f 68,.func (.func 96) #[] #[aw gq],(.agg (bF x.1.1).toArray),f 71,f 72,f 73,f 74,f 75,f 76,f 77,f 78,f 79,f 80,f 81,f 82,f 83,f 84,f 85,f 86,f 87,f 88,f 89,f 90,f 91,f 92,f 93,f 94,f 95,f 96,f 97,f 98,f 99,f 100,f 101,f 102,f 103,f 104,f 105,f 106,f 107,f 108,f 109,f 110,f 111,f 112,f 113,f 114,f 115,f 116,f 117,f 118,f 119,f 120,f 121,f 122,f 123,f 124,f 125,f 126,f 127,f 128,f 129,f 130,f 131,f 132,f 133,f 134,f 135,f 136,f 137,f 138,f 139,f 140,f 141,f 142,f 143,f 144,f 145,f 146,f 147,f 148,f 149,f 150,f 151,f 152,f 153,f 154,f 155,f 156,f 157,f 158,f 159,f 160,f 161,f 162,f 163,f 164,f 165,f 166,f 167,f 168,f 169,f 170,f 171,f 172,f 173,f 174,f 175,f 176,f 177,f 178,f 179,f 180,f 181,f 182,f 183,f 184,f 185,f 186,f 187,f 188,f 189,f 190,f 191,f 192,f 193,f 194,f 195,f 196,f 197,f 198,f 199,f 200,f 201,f 202,f 203,f 204,f 205,f 206,f 207,f 208,f 209,f 210,f 211,f 212,f 213,f 214,f 215,f 216,f 217,f 218,f 219,f 220,f 221,f 222,f 223,f 224,f 225,f 226,f 227,f 228,f 229,f 230,f 231,f 232,f 233,f 234,f 235,f 236,f 237,f 238,f 239,f 240,f 241,f 242,f 243,f 244,f 245,f 246,f 247,f 248,f 249,f 250,f 251],defers:=[] } (W.alloc (.cells (bF x.1.1).toArray 46)) ((KeepsOthers.alloc _ _).from _) (Fr.below bbn) ⟨Below.trans hi1 (bbn.mono hi1.size),Gl⟩ ⟨_,hbn,rfl⟩
  clear hK hdone Tv HD HS S8 hseq;unfold bF at*;simp only[Qm];gi_wp2;exact hK2
 case body=>rintro l pre x a' W hl ⟨r,hr⟩ ⟨hi1,Gl⟩ ⟨g7,rC,rfl⟩ hlt;have ajl:=Tr.Zb x.1.2 x.1.1 w0 x.2.1 x.2.2 W (Below.trans hb (hi1.mono hb.size));have H4:=aa (hb4.later hi1);have H5:=aa (Iq.later hi1);have HI1:=aa hi1;have HI2:=aa Gl;clear hdone Tv HD HS S8 hseq hr hi1 Gl;unfold mn at ajl;open zds in exact Zbu
 case done=>rintro D xs W hD rfl ⟨h1,h2⟩ h3;exact HD.ae D W h1 hD h3 h2
 case stop=>
  rintro D cd pre W hD Ee ⟨rfl,h1,h2⟩ h3;have hx:=HS.ae D W hD (by
   obtain⟨x,hx1,hx2⟩:=List.any_eq_true.1 h1
   exact List.any_eq_true.2 ⟨x,Ee.subset hx1,hx2⟩) h2 h3
  gi_wp2;exact hx
attribute [local go_sem] Oper.semAt_some
theorem zcs.Kas(h:p:=by
 clear hE q5 hO Au hP hb cJ hb4 Iq Ar hl4 hl5 key;simp only[bJ,fA,Tryz.f28,Option.getD_some];refine wp_seq_k λ K hK=>?_
 have HK:=aa (show∀(D:Nat) (w':World),w0.heap.size<=D->q.all.any (λ t=>decide (32 < t.depth))=false->cP c w0 gp g2 (eI q L) g4 g5 D r w' u v [] ⟨[],[]⟩ hd [] [] [] [] [] []->∀T:Array Value,T.size=252->T.getD 1 undef=.slice c.cA c.cols.length c.cc->T.getD 2 undef=aw g2->T.getD 4 undef=aw g4->T.getD 5 undef=aw g5->T.getD 6 undef=aw gp->K { tmps:=T,defers:=dD D } w' from λ D w' h0 h1 h3 T a0 a1 a2 a3 a4 a5=>hK _ _ (KEY.ae D w' h0 h1 h3 T a0 a1 a2 a3 a4 a5));clear hK KEY;go_wp2_with fail;clear c0 c1 c2 y3 c4 c5 c6 c7;refine(adU q L w).mono ?_;rintro e w1 ⟨gq,rfl,IW,zT,hb1⟩;obtain⟨LL,hLL,hseq⟩:=S7 oy.ae 3 WC w1 gq IW (Below.trans HB.ae (hb1.mono HB.ae.size));have zL:=aa hLL;have S8:=aa hseq;have eB:=aa hb1;clear IW zT hb1 hLL hseq;go_wp2_with fail;have aqd:=λ(T:Array Value) hT e4 e5 e69 (Q2:Exit->Act->World->Prop) hd hs=>Wz w0 w1 LL gq g4 g5 T hT e4 e5 e69 S8.ae (Below.trans HB.ae (eB.ae.mono HB.ae.size)) (J4.ae.later eB.ae) (uS.ae.later eB.ae) HL.ae.1 HL.ae.2.1 HL.ae.2.2 Q2 hd hs
 simp only[QW,JB,bJ,fA,Tryz.f28,Option.getD_some] at aqd;refine aqd _ ?_ ?_ ?_ ?_ _ ?_ ?_
 ·rfl
 ·rfl
 ·rfl
 ·rfl
 ·intro D W a1 a2 a3 a4;have nG:=Below.trans eB.ae (a1.mono eB.ae.size);exact HK.ae D W (Nat.le_trans HB.ae.size (Nat.le_trans eB.ae.size a2)) (by rw[<- zL.ae,any_map];exact a4) (HP.ae W D nG (Nat.le_trans eB.ae.size a2) a3) _ rfl rfl rfl rfl rfl rfl
 ·intro D W a0 a1 a2 a3;exact Q5.ae D _ W (Nat.le_trans HB.ae.size (Nat.le_trans eB.ae.size a0)) (by rw[<- zL.ae,any_map];exact a1) ⟨rfl,rfl,rfl⟩ a2 a3):p:=h
theorem zfc.Ka9(h:p:=by
 have key:∀(D:Nat) (w':World),w0.heap.size<=D->q.all.any (λ t=>decide (32 < t.depth))=false->cP c w0 gp g2 (eI q L) g4 g5 D r w' u v [] ⟨[],[]⟩ hd [] [] [] [] [] []->∀T:Array Value,T.size=252->T.getD 1 undef=.slice c.cA c.cols.length c.cc->T.getD 2 undef=aw g2->T.getD 4 undef=aw g4->T.getD 5 undef=aw g5->T.getD 6 undef=aw gp->(fA bJ 4).wp Tryz.prog Q { tmps:=T,defers:=dD D } w':=λ D w' hDD hx hp T hT h1 h2 h4 h5 h6=>
  have hR:rS c.aK c.aL c.cols q=wO c.aK c.aL c.cols q:=if_neg (by rw[hx];decide)
  Wy c w0 gp g2 g4 g5 D q L r u v hd T hT h1 h2 h4 h5 h6 (dD D) w' Q (Au.full hx) hp (λ er a W he=>hE D er a W hDD (hR.trans he)) (λ a W r' u' v' qf s' uV yi yh yo ti th eF he ha hp=>hO D a W r' u' v' qf s' uV yi yh yo ti th eF hDD (hR.trans he) ha hp)
 have Q5:=aa q5;have oy:=aa Au;have HP:=aa hP;simp only[bJ,fA,Tryz.f28,Option.getD_some] at key;have KEY:=aa key;have HB:=aa hb;have fG:=aa cJ;have J4:=aa hb4;have uS:=aa Iq;have HL:=aa (And.intro Ar (And.intro hl4 hl5));unfold eI at cJ;open zcs in exact ZaX):p:=h
theorem adV (c:PC)(w0:World)(gp g2 g4 g5:Nat)(q:Qy)(L:QL)(r:Rest)(u v:Value)(hd:List aW)(T:Array Value)(hT:T.size=252)
  (h1:T.getD 1 undef=.slice c.cA c.cols.length c.cc) (h2:T.getD 2 undef=aw g2) (h4:T.getD 4 undef=aw g4) (h5:T.getD 5 undef=aw g5) (h6:T.getD 6 undef=aw gp) (w:World) (Q:Exit->Act->World->Prop)
  (Au:Ae c w0 q L hd)
  (hP:∀W D,aj w W->w.heap.size<=D->W.heap[D]?=some (.deferred (some []))->cP c w0 gp g2 (eI q L) g4 g5 D r W u v [] ⟨[],[]⟩ hd [] [] [] [] [] [])
  (hb:aj w0 w) (cJ:aB w g2 27 (eI q L)) (hb4:aB w g4 72 #[.pointer none]) (Iq:aB w g5 34 #[af 0]) (Ar:g4≠g5) (hl4:w0.heap.size<=g4) (hl5:w0.heap.size<=g5)
  (q5:∀D a W,w0.heap.size<=D->q.all.any (λ t=>decide (32 < t.depth))=true->ql a (dD D) g4 g5->ajk w0 g4 g5 W->W.heap[D]?=some (.deferred (some []))->Q .ret a W)
  (hE:∀D er a W,w0.heap.size<=D->rS c.aK c.aL c.cols q=.error er->er≠0->ql a (dD D) g4 g5->wL w0 g4 g5 D W->Q .ret a (jk W g4 g5 er))
  (hO:∀D a W r' u' v' qf s' uV yi yh yo ti th eF,w0.heap.size<=D->rS c.aK c.aL c.cols q=.ok (ti,uV,th,eF,s')->ql a (dD D) g4 g5->cP c w0 gp g2 (eI q L) g4 g5 D r' W u' v' qf s' ((if q.items=[] then hd else [])++uV) yi yh yo ti th eF->Q .ret a (ju W g4 g5 gp)):
  (fA bJ 3).wp Tryz.prog Q { tmps:=T,defers:=[] } w:=by
 open zfc in exact ZcV
end Go.Proofs.YtndgjggokjickaaGreatDoor
