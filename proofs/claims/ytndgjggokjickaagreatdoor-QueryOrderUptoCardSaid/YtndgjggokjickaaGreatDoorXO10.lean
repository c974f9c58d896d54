/- Parts of the proof. -/
import Derived.Test.YtndgjggokjickaaGreatDoorXO9
namespace Go.Proofs.YtndgjggokjickaaGreatDoor
variable{p:Prop}
set_option maxHeartbeats 90000000
set_option maxRecDepth 100000
open Go.ChangeShapes Go.WideShapes Go.ChangeAt Go.RowKit List
set_option linter.unusedVariables false
set_option linter.unusedSimpArgs false
def Dy (items order:List Tr)(over:List aX)(r:List Val):Except Int eG:=match bu over r (items++order)with
 | .error e=> .error e
 | .ok l=> .ok ⟨if items=[] then r else l.take items.length,l.drop items.length⟩
def wS (items order:List Tr)(over:List aX)(rs:List aW):List eG:=rs.filterMap λ r=>ur (Dy items order over r.l)
variable{order:List Tr}{over:List aX}{rs:List aW}{k:Nat}
theorem WJ{items:List Tr}   (h:k < rs.length):wS items order over (rs.take (k+1))=wS items order over (rs.take k)++(match ur (Dy items order over rs[k].l)with | some x=> [x] | none=> []):=by
 have e:rs.take (k+1)=rs.take k++ [rs[k]]:=by rw[take_add_one,getElem?_eq_getElem h];rfl
 unfold wS;rw[e,filterMap_append];congr 1;rw[filterMap_cons,filterMap_nil];cases ur (Dy items order over rs[k].l)<;> rfl
variable{A:Option Addr}{n:Nat}{a:Addr}
theorem Nh{c:Nat} (h:eQ A c n=some a):∃b,A=some b/\b.block=a.block:=by
 unfold eQ at h;split at h
 ·exact⟨a,h,rfl⟩
 ·cases A with
  | none=>cases h
  | some b=>simp only[Option.map_some,Option.some.injEq] at h;exact⟨b,rfl,by rw[<- h,vp]⟩
variable{w:World}{l:List Val}
theorem bM.drop(h:bM w A l)(n c:Nat)(hc:l.length<=c):bM w (eQ A c n) (l.drop n):=
 ⟨h.rv.Tn n c hc,λ a ha=>by obtain⟨b,e1,e2⟩:=Nh ha;obtain⟨cur,xZ⟩:=h.ty b e1;exact⟨cur,e2▸xZ⟩⟩
structure Ni (w:World) (gp:Nat) (items order:List Tr) (over:List aX) (yi yo:List Ex) (IA:Option Addr) (ic:Nat) (DA:Option Addr) (dc:Nat) (OA:Option Addr):Prop where
 lt:gp < w.heap.size
 c13:w.cell? ⟨gp,13,none⟩=some (.slice IA yi.length ic)
 c15:w.cell? ⟨gp,15,none⟩=some (.slice DA yo.length dc)
 ri:RE w w.heap.size IA yi
 ti:Tr.aO w (Old w) items yi
 ro:RE w w.heap.size DA yo
 eD:Tr.aO w (Old w) order yo
 rc:RC w w.heap.size OA over
variable{w':World}{gp:Nat}{yi yo:List Ex}{IA:Option Addr}{ic:Nat}{DA:Option Addr}{dc:Nat}{OA:Option Addr}
theorem Ni.later{items:List Tr}       (h:Ni w gp items order over yi yo IA ic DA dc OA)(hb:aj w w'):Ni w' gp items order over yi yo IA ic DA dc OA:=
 ⟨Nat.lt_of_lt_of_le h.lt hb.size,(hb.cell (p:=⟨gp,13,none⟩) h.lt).trans h.c13,(hb.cell (p:=⟨gp,15,none⟩) h.lt).trans h.c15,h.ri.later hb,Tr.aO.later h.ti hb,h.ro.later hb,Tr.aO.later h.eD hb,h.rc.later hb⟩
def aji (gp:Nat)(IA:Option Addr)(ni ic:Nat)(DA:Option Addr)(no dc:Nat)(CA:Option Addr)(cn cc:Nat)(RA:Option Addr)(rn rc:Nat)(E:List Ex)(B0:Nat)(res:Except Int (List Val)):Nat->World->Value->Prop
 | 0,_,v=>v=aw gp
 | 1,_,v=>v=aw gp
 | 2,_,v=>v=ba gp 13
 | 3,_,v=>v=.slice IA ni ic
 | 4,_,v=>v=aw gp
 | 5,_,v=>v=aw gp
 | 6,_,v=>v=ba gp 15
 | 7,_,v=>v=.slice DA no dc
 | 8,w,v=>∃gB:Nat,v=aI gB 2 2/\aB w gB 23 #[.slice IA ni ic,.slice DA no dc]
 | 9,w,v=>∃v7:Value,v=v7/\uL w B0 v7 E
 | 10,_,v=>v=.slice CA cn cc
 | 11,_,v=>v=.slice RA rn rc
 | 12,w,v=>∃x0 x1:Value,v=.tuple #[x0,x1]/\nH res w B0 x0 x1
 | 13,w,v=>∃x0 x1:Value,v=.tuple #[x0,x1]/\nH res w B0 x0 x1
 | 14,w,v=>∃x0 x1:Value,v=x0/\nH res w B0 x0 x1
 | 15,_,v=>v=af (nj res)
 | 16,w,v=>∃x0 x1:Value,v=x0/\nH res w B0 x0 x1
 | _,_,_=>False
theorem Rg (gp:Nat)(IA:Option Addr)(ni ic:Nat)(DA:Option Addr)(no dc:Nat)(CA:Option Addr)(cn cc:Nat)(RA:Option Addr)(rn rc:Nat)(E:List Ex)(B0:Nat)(res:Except Int (List Val)):∀i w w' v,aji gp IA ni ic DA no dc CA cn cc RA rn rc E B0 res i w v->ai w w'->aji gp IA ni ic DA no dc CA cn cc RA rn rc E B0 res i w' v:=by
 intro i w w' v h hl
 match i with
 | 0 | 1 | 2 | 3 | 4 | 5 | 6 | 7 | 10 | 11 | 15=>exact h
 | 8=>obtain⟨gB,h1,f0⟩:=h;exact⟨gB,h1,f0.later hl⟩
 | 9=>obtain⟨v7,h1,f0⟩:=h;exact⟨v7,h1,f0.later hl⟩
 | 12=>exact Zb4
 | 13=>exact Zb4
 | 14=>exact Zb4
 | 16=>exact Zb4
 | n+17=>exact h
def ajj (gp:Nat)(IA:Option Addr)(ni ic:Nat)(XA:Option Addr)(xn xc B0:Nat):Nat->World->Value->Prop
 | 0,_,v=>v=.slice XA xn xc
 | 1,_,v=>v=aw gp
 | 2,_,v=>v=aw gp
 | 3,_,v=>v=ba gp 13
 | 4,_,v=>v=.slice IA ni ic
 | 5,_,v=>v=af ni
 | 6,_,v=>v=aw gp
 | 7,_,v=>v=aw gp
 | 8,_,v=>v=ba gp 13
 | 9,_,v=>v=.slice IA ni ic
 | 10,_,v=>v=af ni
 | 11,_,v=>v=.slice XA ni ni
 | 12,_,v=>v=.slice XA xn xc
 | 13,_,v=>v=aw gp
 | 14,_,v=>v=aw gp
 | 15,_,v=>v=ba gp 13
 | 16,_,v=>v=.slice IA ni ic
 | 17,_,v=>v=af ni
 | 18,_,v=>v=.slice (eQ XA xc ni) (xn - ni) (xc - ni)
 | 19,_,v=>v=.agg #[.slice XA ni ni,.slice (eQ XA xc ni) (xn - ni) (xc - ni)]
 | 20,w,v=>∃gx:Nat,v=aw gx/\aB w gx 91 #[az,az]/\B0<=gx
 | _,_,_=>False
theorem Rh (gp:Nat)(IA:Option Addr)(ni ic:Nat)(XA:Option Addr)(xn xc B0:Nat):∀i w w' v,ajj gp IA ni ic XA xn xc B0 i w v->ai w w'->ajj gp IA ni ic XA xn xc B0 i w' v:=by
 intro i w w' v h hl
 match i with
 | 0 | 1 | 2 | 3 | 4 | 5 | 6 | 7 | 8 | 9 | 10 | 11 | 12 | 13 | 14 | 15 | 16 | 17 | 18 | 19=>exact h
 | 20=>obtain⟨gx,h1,f0,f1⟩:=h;exact⟨gx,h1,f0.later hl,f1⟩
 | n+21=>exact h
def ajk (gb:Nat)(le:Int):Nat->World->Value->Prop
 | 0,_,v=>v=.agg #[az,az,af 0]
 | 1,_,v=>v=aw gb
 | 2,_,v=>v=af le
 | 3,_,v=>v=undef
 | 4,_,v=>v=af le
 | _,_,_=>False
theorem Ri (gb:Nat)(le:Int):∀i w w' v,ajk gb le i w v->ai w w'->ajk gb le i w' v:=by exact ZgJ
variable{g:Nat}{t:TypeId}
theorem pM{a b c:Value}(h:aB w g t #[a,b,c]):ai w (((w.setCell ⟨g,0,none⟩ a).setCell ⟨g,1,none⟩ b).setCell ⟨g,2,none⟩ c):=by
 have h2:aB (((w.setCell ⟨g,0,none⟩ a).setCell ⟨g,1,none⟩ b).setCell ⟨g,2,none⟩ c) g t #[a,b,c]:=((h.aT 0 a).aT 1 b).aT 2 c;refine⟨rfl,rfl,rfl,by simp,λ k hk=>?_⟩;by_cases e:k=g
 ·subst e;exact(show _=_ from h2).trans (show _=_ from h).symm
 ·rw[Below.heap_setCell _ ⟨g,2,none⟩ _ k e,Below.heap_setCell _ ⟨g,1,none⟩ _ k e,Below.heap_setCell _ ⟨g,0,none⟩ _ k e]
theorem zdv.KaG(h:p:=by exact Ks (w':=((w3.setCell ⟨g6,0,none⟩ (az)).setCell ⟨g6,1,none⟩ (az)).setCell ⟨g6,2,none⟩ (af 0)) (by simp[go_sem,h0,h1,z0,z1,x2,f0,f1,f2];done) ⟨pM VX,rfl⟩):p:=h
theorem zhH.Kb8(h:p:=by
 have apK:=aa (show∀x∈dL,bM W3 x.1.A x.1.l/\bM W3 x.2.A x.2.l/\x.1.l.length<=1000/\x.2.l.length=order.length from λ x hx=>by obtain⟨f1,f2,q3⟩:=ajl.ae x hx;exact⟨f1.later hL,f2.later hL,q3⟩);have apL:=aa (uH.ae.later hL);have Qr:=aa agr;have HNX:=aa (show u13.ownBlock≠some jm from λ e=>by have h1:=(HO.ae.lt e).1;have h2:=S8;have h3:=eL.ae;omega);have HGL:=aa (show w.heap.size<=jm from Nat.le_trans vd.ae.size (by rw[<- eL.ae];exact S8));clear hL vd HO M9 ajl uH agr S8 eL HEW;have gx0:=Qr.ae.cell 0;have gx1:=Qr.ae.cell 1;have gf0:=Qr.ae.frozen 0;have gf1:=Qr.ae.frozen 1;simp only[Uaa] at gx0 gx1;go_upto_region 23 with fail;clear gx0 gx1 gf0 gf1;have g7:W3.grownBy ((W3.setCell ⟨jm,0,none⟩ (.slice XA gn gn)).setCell ⟨jm,1,none⟩ (.slice (eQ XA xc gn) (xn - gn) (xc - gn))) (some jm):=aC (aC (aR (Below.refl _ _)) _ _) _ _;have Tm:=aa (show aB ((W3.setCell ⟨jm,0,none⟩ (.slice XA gn gn)).setCell ⟨jm,1,none⟩ (.slice (eQ XA xc gn) (xn - gn) (xc - gn))) jm 91 #[.slice XA gn gn,.slice (eQ XA xc gn) (xn - gn) (xc - gn)] from(Qr.ae.aT 0 _).aT 1 _);generalize (W3.setCell ⟨jm,0,none⟩ (.slice XA gn gn)).setCell ⟨jm,1,none⟩ (.slice (eQ XA xc gn) (xn - gn) (xc - gn))=W7 at*;have fJ:∀ {A:Option Addr} {l:List Val},bM W3 A l->bM W7 A l:=λ h=>h.keep g7.size λ b cur hc=>g7.block b hc.lt λ e=>by injection e with e;subst e;exact kQ hc Qr.ae WC rfl
 have Gw:=aa (cq Mm.ae g7 HGL.ae);have wJ:=aa (Mx.ae.grown g7 HNX.ae);have EK:=aa (Eg.ae.grown g7 (λ e=>by injection e with e;exact kQ Eg.ae Qr.ae WC e));have WM:=aa (show∀x∈dL,bM W7 x.1.A x.1.l/\bM W7 x.2.A x.2.l/\x.1.l.length<=1000/\x.2.l.length=order.length from λ x hx=>by obtain⟨f1,f2,q3⟩:=apK.ae x hx;exact⟨fJ f1,fJ f2,q3⟩);have adO:=aa (fJ apL.ae);have apM:=aa (HF.ae.later Gw.ae);have c13:=apM.ae.c13;rw[<- IH.ae] at c13;have HDL:=aa (show(l.drop gn).length=xn - gn by rw[length_drop,oz.ae]);have qA:=aa (show(l.take gn).length=gn by rw[length_take];have:=xO.ae;have:=oz.ae;omega);have XE:=aa (show(l.drop gn).length=order.length by rw[length_drop,Lw.ae,HYO.ae];omega);clear g7 fJ Mm Mx Eg apK apL Qr;have avJ:=HNX;clear HNX;by_cases Kx:gn=0
 ·have t3:((gn:Int)==0)=true:=by simp[Kx]
  have HIT:=aa (show items=[] from eq_nil_of_length_eq_zero (by rw[HYI.ae,Kx]));have HZ:=aa Kx;clear Kx;go_wp2_with fail;clear c13;refine(Cv r.A r.c r.l W7 ((avG.ae.below Gw.ae).more Gw.ae.size) QF.ae.1).mono ?_;rintro e w8 ⟨rv,rfl,uY,b8⟩;obtain⟨RA2,rc2,avK,_,hk2⟩:=Jr uY;subst avK;have hx8:=Tm.ae.later b8;have z0:=hx8.cell 0;have f0:=hx8.frozen 0;simp only[Uaa] at z0;go_upto_region 25 with fail;clear z0 f0;have g9:W7.grownBy (w8.setCell ⟨jm,0,none⟩ (.slice RA2 r.l.length rc2)) (some jm):=aC (aR b8) _ _;have ek:aB (w8.setCell ⟨jm,0,none⟩ (.slice RA2 r.l.length rc2)) jm 91 #[.slice RA2 r.l.length rc2,.slice (eQ XA xc gn) (xn - gn) (xc - gn)]:=hx8.aT 0 _;have hk9:bM (w8.setCell ⟨jm,0,none⟩ (.slice RA2 r.l.length rc2)) RA2 r.l:=hk2.keep (by rw[World.size_setCell];exact Nat.le_refl _) λ b cur hc=>Below.heap_setCell _ ⟨jm,0,none⟩ _ b λ e=>by have e:b=jm:=e;subst e;exact kQ hc hx8 WC rfl
  have XH:u13.ownBlock≠some jm:=avJ.ae;generalize w8.setCell ⟨jm,0,none⟩ (.slice RA2 r.l.length rc2)=W9 at*;have fJ:∀ {A:Option Addr} {l:List Val},bM W7 A l->bM W9 A l:=λ h=>h.keep g9.size λ b cur hc=>g9.block b hc.lt λ e=>by injection e with e;subst e;exact kQ hc Tm.ae WC rfl
  have Gw:=aa (cq Gw.ae g9 HGL.ae);have wJ:=aa (wJ.ae.grown g9 XH);have EK:=aa (EK.ae.grown g9 (λ e=>by injection e with e;exact kQ EK.ae Tm.ae WC e));have WM:=aa (show∀x∈dL,bM W9 x.1.A x.1.l/\bM W9 x.2.A x.2.l/\x.1.l.length<=1000/\x.2.l.length=order.length from λ x hx=>by obtain⟨f1,f2,q3⟩:=WM.ae x hx;exact⟨fJ f1,fJ f2,q3⟩);obtain⟨nl,hnl⟩:∃nl:aW×aW,nl=(⟨RA2,r.l,rc2⟩,⟨eQ XA xc gn,l.drop gn,xc - gn⟩):=⟨_,rfl⟩;have HNL:=aa (show(eN nl).toArray= #[.slice RA2 r.l.length rc2,.slice (eQ XA xc gn) (xn - gn) (xc - gn)] by rw[hnl];unfold eN;dsimp only;rw[HDL.ae]);have Qg:=aa (show Ng nl=⟨if items=[] then r.l else l.take items.length,l.drop items.length⟩ by rw[hnl,if_pos HIT.ae,HYI.ae];rfl);have HN8:=aa (show bM W9 nl.1.A nl.1.l/\bM W9 nl.2.A nl.2.l/\nl.1.l.length<=1000/\nl.2.l.length=order.length by
   rw[hnl]
   exact⟨hk9,(fJ adO.ae).drop gn xc QS.ae,QF.ae.1,XE.ae⟩)
  have z0:=ek.cell 0;have z1:=ek.cell 1;simp only[Uaa] at z0 z1;clear hnl hk9 ek hx8 hk2 uY b8 g9 XH fJ Tm adO apM;have bN:=ah W9 (.cells #[.slice RA2 r.l.length rc2,.slice (eQ XA xc gn) (xn - gn) (xc - gn)] 91);have hG:=aB.new W9 91 #[.slice RA2 r.l.length rc2,.slice (eQ XA xc gn) (xn - gn) (xc - gn)];have mF:=aa (wJ.ae.later bN);have JF:=aa (EK.ae.later bN);have QU:=aa (Below.trans Gw.ae (bN.mono Gw.ae.size));have ajn:=aa (show∀x∈dL,bM _ x.1.A x.1.l/\bM _ x.2.A x.2.l/\x.1.l.length<=1000/\x.2.l.length=order.length from λ x hx=>by obtain⟨f1,f2,q3⟩:=WM.ae x hx;exact⟨f1.later bN,f2.later bN,q3⟩);have HN1:=aa (HN8.ae.1.later bN);have HN2:=aa (HN8.ae.2.1.later bN);have Gl:=aa hG;have hbase:=QU.ae.size;have hlk:=zP.ae;clear bN hG wJ EK Gw WM;go_wp2_with (first
   |(at_builtin
     refine aU (f:=eN) rfl (.tmp 133) (.tmp 135) 85 rfl _ 48 Tryz.underlying85 TE rfl Tq nl rfl (by simp[eN,Value.oneCell']) rfl mF.ae W9.heap.size rfl (by rw[HNL.ae];exact Gl.ae) Tq Tq hbase ?_
     intro v4 w4 o4 g4
     have O4:=aa o4
     have B4:=aa (JF.ae.ky mF.ae WC g4)
     have RW4:=aa (show∀x∈dL,bM w4 x.1.A x.1.l/\bM w4 x.2.A x.2.l/\x.1.l.length<=1000/\x.2.l.length=order.length from λ x hx=>by obtain⟨f1,f2,q3⟩:=ajn.ae x hx;exact⟨f1.own mF.ae WC g4,f2.own mF.ae WC g4,q3⟩)
     have N41:=aa (HN1.ae.own mF.ae WC g4)
     have N42:=aa (HN2.ae.own mF.ae WC g4)
     have Ly:=aa (Below.trans QU.ae (bj mF.ae g4 hbase))
     clear o4 g4))
  exact ZbY
 ·have t3:((gn:Int)==0)=false:=by simp[Kx]
  have HIT:=aa (show items≠ [] from λ e=>Kx (by rw[<- HYI.ae,e];rfl));clear Kx;obtain⟨nl,hnl⟩:∃nl:aW×aW,nl=(⟨XA,l.take gn,gn⟩,⟨eQ XA xc gn,l.drop gn,xc - gn⟩):=⟨_,rfl⟩;have HNL:=aa (show(eN nl).toArray= #[.slice XA gn gn,.slice (eQ XA xc gn) (xn - gn) (xc - gn)] by rw[hnl];unfold eN;dsimp only;rw[qA.ae,HDL.ae]);have Qg:=aa (show Ng nl=⟨if items=[] then r.l else l.take items.length,l.drop items.length⟩ by rw[hnl,if_neg HIT.ae,HYI.ae];rfl);have HN8:=aa (show bM W7 nl.1.A nl.1.l/\bM W7 nl.2.A nl.2.l/\nl.1.l.length<=1000/\nl.2.l.length=order.length by
   rw[hnl]
   exact⟨adO.ae.take gn,adO.ae.drop gn xc QS.ae,by show(l.take gn).length<=1000;rw[qA.ae,<- HYI.ae];exact XS.ae HIT.ae,XE.ae⟩)
  have z0:=Tm.ae.cell 0;have z1:=Tm.ae.cell 1;simp only[Uaa] at z0 z1;clear hnl;go_upto_region 25 with fail
  clear c13;have bN:=ah W7 (.cells #[.slice XA gn gn,.slice (eQ XA xc gn) (xn - gn) (xc - gn)] 91);have hG:=aB.new W7 91 #[.slice XA gn gn,.slice (eQ XA xc gn) (xn - gn) (xc - gn)];have mF:=aa (wJ.ae.later bN);have JF:=aa (EK.ae.later bN);have QU:=aa (Below.trans Gw.ae (bN.mono Gw.ae.size));have ajn:=aa (show∀x∈dL,bM _ x.1.A x.1.l/\bM _ x.2.A x.2.l/\x.1.l.length<=1000/\x.2.l.length=order.length from λ x hx=>by obtain⟨f1,f2,q3⟩:=WM.ae x hx;exact⟨f1.later bN,f2.later bN,q3⟩);have HN1:=aa (HN8.ae.1.later bN);have HN2:=aa (HN8.ae.2.1.later bN);have Gl:=aa hG;have hbase:=QU.ae.size;have hlk:=zP.ae;clear bN hG wJ EK Gw WM;go_wp2_with (first
   |(at_builtin
     refine aU (f:=eN) rfl (.tmp 133) (.tmp 135) 85 rfl _ 48 Tryz.underlying85 TE rfl Tq nl rfl (by simp[eN,Value.oneCell']) rfl mF.ae W7.heap.size rfl (by rw[HNL.ae];exact Gl.ae) Tq Tq hbase ?_
     intro v4 w4 o4 g4
     have O4:=aa o4
     have B4:=aa (JF.ae.ky mF.ae WC g4)
     have RW4:=aa (show∀x∈dL,bM w4 x.1.A x.1.l/\bM w4 x.2.A x.2.l/\x.1.l.length<=1000/\x.2.l.length=order.length from λ x hx=>by obtain⟨f1,f2,q3⟩:=ajn.ae x hx;exact⟨f1.own mF.ae WC g4,f2.own mF.ae WC g4,q3⟩)
     have N41:=aa (HN1.ae.own mF.ae WC g4)
     have N42:=aa (HN2.ae.own mF.ae WC g4)
     have Ly:=aa (Below.trans QU.ae (bj mF.ae g4 hbase))
     clear o4 g4))
  exact ZbY):p:=h
theorem zhV.Kce(h:p:=by
 have hln:l.length=gn+no:=by rw[hlen,length_append,HYI.ae,HYO.ae]
 have Lw:=aa hln;have xO:=aa (show gn<=l.length by omega);have HXC:=aa (show gn<=xc by omega);have QS:=aa hxl;have HEW:=aa (HF.ae.later vd.ae);obtain⟨xn,Ef⟩:∃xn,xn=l.length:=⟨_,rfl⟩;rw[<- Ef] at xO ⊢;have oz:=aa Ef;obtain⟨B1,Ku⟩:∃B1,B1=w5.heap.size:=⟨_,rfl⟩;have eL:=aa Ku;clear I5 hln hxl Ef KK hlen Ku;go_upto_region 22 with fail;refine bB 21 (ajj gp IA gn ic XA xn xc B1) (Rh _ _ _ _ _ _ _ _) T8 T8 T8 ?_ ?_
 ·simp only[take_succ_cons,take_zero];refine⟨Zab,Zab,Zab,Zab,Zd1,Zab,Zab,Zab,Zab,Zd1,Zab,Zdi,Zab,Zab,Zab,Zab,Zd1,Zab,ZfS,ZdX,?_,trivial⟩
  ·intro ρ w3 hc hL hr;exact aq (v:=aw w3.heap.size) (w':=w3.alloc (.cells #[az,az] 91)) (by simp[go_sem];done) ⟨ah _ _,_,rfl,aB.new _ _ _,by rw[eL.ae];exact hL.size⟩
 intro W3 hL;simp only[Uab];rintro a0 - a1 - a2 - a3 - a4 - a5 - a6 - a7 - a8 - a9 - FM - J3 - a12 - a13 - a14 - a15 - a16 - a17 - a18 - _ rfl a20 ⟨jm,rfl,agr,S8⟩;open zhH in exact ZfR):p:=h
theorem zf4.Kbx(h:p:=by
 go_wp2_with fail;go_loopw [13,81] (λ lv i wr=>∃(k:Nat) (dL:List (aW×aW)),k<=zs.length/\i=af k/\aH eN 91 2 wr w.heap.size lv dL/\(∀x∈dL,bM wr x.1.A x.1.l/\bM wr x.2.A x.2.l/\x.1.l.length<=1000/\x.2.l.length=order.length)/\dL.map Ng=wS items order over (zs.take k)/\dL.length<=k/\aB wr gb 84 #[af (dW over (items++order) (zs.take k))]/\aj w wr) (λ _ i _=>zs.length - (intOf i).toNat);case atStart=>exact⟨0,[],Nat.zero_le _,rfl,aH.nil,(λ x hx=>by cases hx),rfl,Nat.le_refl _,M7.ae,eL.ae⟩
 case round=>
  clear eL M7;obtain⟨k,dL,hkr,rfl,XT,hRW,hLS,Ig,hGB,hB⟩:=hrel;have Kh:=aa XT;have IX:=aa hRW;have HP:=aa hLS;have zP:=aa Ig;have HI:=aa hGB;have HB:=aa hB;have hk9:k<=301:=by have:=HLEN.ae;omega
  clear XT hRW hLS Ig hGB hB;by_cases hlt:k < zs.length
  ·obtain⟨b,off,rfl,kG,hcell,uY⟩:=(HFN.ae.below HB.ae).at_ hlt;have Bi:=aa (uY.more HB.ae.size);have QF:=aa (aiD.ae zs[k] (getElem_mem hlt));have avG:=aa (show RV w w.heap.size zs[k].A zs[k].l from by obtain⟨_,_,_,_,_,h⟩:=HFN.ae.at_ hlt;exact h);have M8:=aa (Dh (cols:=over) (ts:=items++order) hlt).2;have AJ:=aa (WJ (items:=items) (order:=order) (over:=over) hlt);generalize zs[k]=r at*;generalize dW over (items++order) (zs.take k)=FO at*;generalize wS items order over (zs.take k)=ls at*;obtain⟨res,hres⟩:∃res,res=bu over r.l (items++order):=⟨_,rfl⟩;rw[<- hres] at M8;have jM:=aa hres.symm;have oK:=aa (HF.ae.later HB.ae);obtain⟨E,hE⟩:∃E,E=yi++yo:=⟨_,rfl⟩;have pV:=aa hE;obtain⟨B0,hB0⟩:∃B0,B0=wr.heap.size:=⟨_,rfl⟩;have BI:=aa hB0;clear kG uY hres hE hB0;go_upto_region 20 with fail;clear hcell;refine bB 17 (aji gp IA gn ic DA no dc OA over.length oc r.A r.l.length r.c E B0 res) (Rg _ _ _ _ _ _ _ _ _ _ _ _ _ _ _ _) T8 T8 T8 ?_ ?_
   ·simp only[take_succ_cons,take_zero];refine⟨Zab,Zab,Zab,?_,Zab,Zab,Zab,?_,?_,?_,Zab,Zab,?_,?_,?_,?_,?_,trivial⟩
    ·intro ρ w3 hc hL hr;have h0:_=_:=hr.1;have c0:=(oK.ae.later hL).c13;exact ZbQ
    ·intro ρ w3 hc hL hr;have h0:_=_:=hr.1;have c0:=(oK.ae.later hL).c15;exact aq (w':=w3) (by simp[go_sem,h0,c0,<- HNO.ae];done) ⟨ai.refl _,rfl⟩
    ·intro ρ w3 hc hL hr;have h0:_=_:=hr.1;have h1:_=_:=hr.2.1;exact aq (v:=aI w3.heap.size 2 2) (w':=w3.alloc (.cells #[.slice IA gn ic,.slice DA no dc] 23)) Tat ⟨ah _ _,_,rfl,aB.new _ _ _⟩
    ·intro ρ w3 hc hL hr;obtain⟨gB0,h0,cK⟩:∃gB:Nat,ρ (.tmp 94)=aI gB 2 2/\aB w3 gB 23 #[.slice IA gn ic,.slice DA no dc]:=hr.1;have e1:=hc.func 35;refine bw (f:=35) (args:= #[aI gB0 2 2]) (w':=w3) Tay ?_;refine(uz (some ⟨gB0,0,none⟩) 2 [⟨IA,ic,yi⟩,⟨DA,dc,yo⟩] w3 Vb (by simpa [lC] using UU.ae) ?_).mono ?_
     ·refine⟨gB0,0,rfl,cK.lt,λ i x hx=>?_⟩
      match i,hx with
      | 0,hx=>simp at hx;subst hx;refine⟨?_,(oK.ae.later hL).ri⟩;exact Zfz
      | 1,hx=>simp at hx;subst hx;refine⟨?_,(oK.ae.later hL).ro⟩;have cb:=cK.cell 1;simp only[Uaa] at cb;rw[Nat.zero_add,cb,HNO.ae]
      | n+2,hx=>simp at hx
     ·exact ZdU
    ·intro ρ w3 hc hL hr;obtain⟨v70,h0,cK⟩:∃v7:Value,ρ (.tmp 95)=v7/\uL w3 B0 v7 E:=hr.1;have h1:_=_:=hr.2.1;have h2:_=_:=hr.2.2.1;obtain⟨EA,ec,he,GF⟩:=rL (show aH bF 46 7 w3 B0 v70 E from cK);rw[pV.ae] at he GF;subst he;have e1:=hc.func 34;refine bw (f:=34) (args:= #[.slice EA (yi++yo).length ec,.slice OA over.length oc,.slice r.A r.l.length r.c]) (w':=w3) (by simp[go_sem,e1,h0,h1,h2];done) ?_;refine(Gq over OA oc r.l r.A r.c (items++order) (yi++yo) EA ec w3 J2.ae (by have:=QF.ae.1;omega) QF.ae.2 iV.ae (Tr.all_append (oK.ae.later hL).ti (oK.ae.later hL).eD) Aa.ae GF (oK.ae.later hL).rc (Bi.ae.later hL)).mono ?_;exact ZcL
    ·intro ρ w3 hc hL hr;obtain⟨We,Wf,h0,cK⟩:∃x0 x1:Value,ρ (.tmp 98)=.tuple #[x0,x1]/\nH res w3 B0 x0 x1:=hr.1;exact Zf6
    ·intro ρ w3 hc hL hr;obtain⟨We,Wf,h0,cK⟩:∃x0 x1:Value,ρ (.tmp 85)=.tuple #[x0,x1]/\nH res w3 B0 x0 x1:=hr.1;exact Zc4
    ·intro ρ w3 hc hL hr;obtain⟨We,Wf,h0,cK⟩:∃x0 x1:Value,ρ (.tmp 85)=.tuple #[x0,x1]/\nH res w3 B0 x0 x1:=hr.1;exact Zgg
    ·intro ρ w3 hc hL hr;obtain⟨We,Wf,h0,cK⟩:∃x0 x1:Value,ρ (.tmp 99)=x0/\nH res w3 B0 x0 x1:=hr.1;exact Zc4
   intro W5 hL;simp only[Uab];rintro a0 - a1 - a2 - a3 - a4 - a5 - a6 - a7 - a8 - a9 - FM - J3 - a12 - a13 - a14 - _ rfl a16 ⟨azi,azj,rfl,agq⟩;simp only[bD,Act.put,Uac];have tD:=aa (Below.trans HB.ae (hL.mono HB.ae.size));have Ad:=aa (HI.ae.later hL);have QQ:=aa (Kh.ae.later hL);have apJ:=aa (show∀x∈dL,bM W5 x.1.A x.1.l/\bM W5 x.2.A x.2.l/\x.1.l.length<=1000/\x.2.l.length=order.length from λ x hx=>by obtain⟨f1,f2,q3⟩:=IX.ae x hx;exact⟨f1.later hL,f2.later hL,q3⟩);have avH:=aa (Bi.ae.later hL);have HWB:=aa agq;have HBL:=aa (show w.heap.size<=B0 by rw[BI.ae];exact HB.ae.size);clear HB HI Kh IX hL agq Bi oK BI;go_wp2_with fail;refine(vP gb FO (nj res) _ Ad.ae).mono ?_;rintro e w5 ⟨rfl,ID,Jm⟩;have QR:=aa ID;have vd:=aa (cq tD.ae Jm (by rw[mE.ae];exact Nat.le_refl _));have HO:=aa (QQ.ae.grown Jm (QQ.ae.other Ad.ae WC));have fJ:∀ {A:Option Addr} {l:List Val},bM W5 A l->bM w5 A l:=λ h=>h.keep Jm.size λ b cur hc=>Jm.block b hc.lt λ e=>by injection e with e;subst e;exact kQ hc Ad.ae WC rfl
   have ajl:=aa (show∀x∈dL,bM w5 x.1.A x.1.l/\bM w5 x.2.A x.2.l/\x.1.l.length<=1000/\x.2.l.length=order.length from λ x hx=>by obtain⟨f1,f2,q3⟩:=apJ.ae x hx;exact⟨fJ f1,fJ f2,q3⟩);have AB:=aa (show∀l,res=.ok l->aH aV 44 3 w5 B0 a16 l from λ l hl=>by
    have h1:=HWB.ae
    rw[hl] at h1
    exact h1.2.grown Jm (h1.2.other Ad.ae WC))
   clear ID Jm tD Ad QQ apJ HWB fJ avH
   cases res with
   | error er=>
     have hne:=GH jM.ae;have t1:(nj (.error er)==0)=false:=by show(er==0)=false;simp[hne]
     have qu:=aa M8.ae;have AL:=aa (show ur (Dy items order over r.l)=none by unfold Dy;rw[jM.ae];rfl);clear hne AB;go_wp2_with fail;go_roundw
     case rel=>
      refine⟨k+1,dL,hlt,by go_num,HO.ae,ajl.ae,?_,Nat.le_succ_of_le zP.ae,?_,vd.ae⟩
      ·rw[AJ.ae,AL.ae];simpa using HP.ae
      ·rw[qu.ae];exact QR.ae
     case measure=>exact Za2
   | ok l=>have qu:=aa (show dW over (items++order) (zs.take (k+1))=nx FO 0 from M8.ae);have AL:=aa (show ur (Dy items order over r.l)=some ⟨if items=[] then r.l else l.take items.length,l.drop items.length⟩ by unfold Dy;rw[jM.ae];rfl);have hlen:=Dg jM.ae;open zhV in exact Zgn
  ·have fJ:k=zs.length:=by omega
   subst fJ;have HTT:=aa (show zs.take zs.length=zs from take_length);rw[HTT.ae] at HP HI;obtain⟨LA,lc,hlv,_⟩:=Kh.ae.reads;subst hlv;go_wp2_with fail;refine Ja.ae _ _ ?_;clear Ja;refine wp_seq_k λ K3 hK3=>?_
   have CV:=aa hK3;clear hK3;have d0:=HI.ae.cell 0;simp only[getElem?_toArray,getElem?_cons_zero] at d0;obtain⟨le,hle⟩:∃le,le=dW over (items++order) zs:=⟨_,rfl⟩;rw[<- hle] at d0;have adR:=aa hle;clear hle;by_cases Kx:le=0
   ·have t1:(le != 0)=false:=by simp[Kx]
    have HZ:=aa (show dW over (items++order) zs=0 by rw[<- adR.ae];exact Kx);clear Kx;go_wp2_with fail;exact CV.ae _ _ (ajf.ae HZ.ae _ _ LA lc dL rfl rfl rfl rfl rfl HB.ae Kh.ae IX.ae HP.ae zP.ae)
   ·have t1:(le != 0)=true:=by simp[Kx]
    have HZ:=aa (show dW over (items++order) zs≠0 by rw[<- adR.ae];exact Kx);have ft:aB wr g6 33 #[az,az,af 0]:=GX.ae.later HB.ae;have Rf:=aa ft;have Q3:=aa (show aB wr gb 84 #[af le] by rw[adR.ae];exact HI.ae);clear Kx ft;go_upto_region 28 with fail;clear d0;refine bB 4 (ajk gb le) (Ri _ _) T8 T8 T8 ?_ ?_
    ·simp only[take_succ_cons,take_zero];refine⟨Zgb,Zab,Zbo,?_,trivial⟩
     ·intro ρ w3 hc hL hr;have h0:_=_:=hr.1;have h1:_=_:=hr.2.1;have VX:=Rf.ae.later hL;open zdv in exact ZbK
    intro W6 hL;simp only[Uab];rintro _ rfl _ rfl _ rfl;simp only[bD,Act.put,Uac];have ft:aB W6 g6 33 #[az,az,af 0]:=Rf.ae.later hL;have bJ:w.grownBy W6 (some g6):=aR (Below.trans HB.ae (hL.mono HB.ae.size));go_wp2_with fail;refine HE.ae HZ.ae _ _ rfl rfl ?_ ft bJ;rw[<- adR.ae];rfl):p:=h
theorem zib.Kcm(h:p:=by
 obtain⟨gn,hni⟩:∃gn,gn=yi.length:=⟨_,rfl⟩;obtain⟨no,hno⟩:∃no,no=yo.length:=⟨_,rfl⟩;have IH:=aa hni;have HNO:=aa hno;have hyi:=dU QO.ti;have hyo:=dU QO.eD;have HYI:=aa (show items.length=gn by rw[hyi,hni]);have HYO:=aa (show order.length=no by rw[hyo,hno]);have UU:=aa (show yi.length+yo.length<=1000000 by omega);have Aa:=aa (show(yi++yo).length<=1599289640356 by rw[length_append];omega);clear hh hE hO QO JE TG hz ND Gz TH NW hX ft hni hno hyi hyo;simp only[ey,fA,Tryz.f11,Option.getD_some];refine wp_seq_k λ K0 hK=>?_
 have HK:=aa hK;clear hK;go_wp2_with fail;refine HK.ae _ _ ?_;clear HK;have b1:=ah w (.cells #[af 0] 84);have k1:=aB.new w 84 #[af 0];have eL:=aa b1;have M7:=aa k1;clear b1 k1;obtain⟨gb,Hx⟩:∃gb,gb=w.heap.size:=⟨_,rfl⟩;have mE:=aa Hx;rw[<- Hx] at M7 ⊢;generalize w.alloc (.cells #[af 0] 84)=W1 at*;open zf4 in exact Zef):p:=h
theorem WK (w0:World)(gp g3 g6:Nat)(items order:List Tr)(over:List aX)(yi yo:List Ex)(IA:Option Addr)(ic:Nat)(DA:Option Addr)(dc:Nat)(OA:Option Addr)(oc:Nat)(zs:List aW)(EA0:Option Addr)(ec0:Nat)(T:Array Value)(hT:T.size=183)
  (h3:T.getD 3 undef=aw g3) (h6:T.getD 6 undef=aw g6) (h8:T.getD 8 undef=aw gp) (h10:T.getD 10 undef=.slice EA0 zs.length ec0) (h11:T.getD 11 undef=.slice OA over.length oc) (d:List Deferred) (w:World) (Q:Exit->Act->World->Prop)
  (QO:Ni w gp items order over yi yo IA ic DA dc OA) (JE:Tr.cO (items++order)) (TG:items.length<=100000) (hz:order.length<=1000000 - 100000) (ND:over.length<=140737488355328) (Gz:items≠ []->items.length<=1000)
  (TH:RR w w.heap.size EA0 zs) (NW:zs.length<=301) (hX:∀r∈zs,r.l.length<=1000/\∀v∈r.l,v.Ok) (ft:aB w g6 33 #[az,az,af 0])
  (hE:dW over (items++order) zs≠0->∀a W,a.defers=d->a.tmps.getD 6 undef=aw g6->a.tmps.getD 7 undef=af (dW over (items++order) zs)->aB W g6 33 #[az,az,af 0]->w.grownBy W (some g6)->Q .ret a W)
  (hO:dW over (items++order) zs=0->∀(T':Array Value) W LA lc (dL:List (aW×aW)),T'.size=183->T'.getD 3 undef=aw g3->T'.getD 6 undef=aw g6->T'.getD 8 undef=aw gp->T'.getD 13 undef=.slice LA dL.length lc->aj w W->aH eN 91 2 W w.heap.size (.slice LA dL.length lc) dL->(∀x∈dL,bM W x.1.A x.1.l/\bM W x.2.A x.2.l/\x.1.l.length<=1000/\x.2.l.length=order.length)->dL.map Ng=wS items order over zs->dL.length<=zs.length->(fA ey 12).wp Tryz.prog Q { tmps:=T',defers:=d } W):
  (fA ey 8).wp Tryz.prog Q { tmps:=T,defers:=d } w:=by
 obtain⟨f,rfl⟩:=yy T hT;have h3:f 3=_:=h3;have h6:f 6=_:=h6;have h8:f 8=_:=h8;have h10:f 10=_:=h10;have h11:f 11=_:=h11;simp only[XY,h3,h6,h8,h10,h11];clear h3 h6 h8 h10 h11;clear h3 h6 h8 h10 h11 hT;have hh:=λ h0 (T':Array Value) W LA lc dL a0 a1 a2 a3 a4 a5 a6 a7 a8 a9=>hO h0 T' W LA lc dL a0 a1 a2 a3 a4 a5 a6 a7 a8 a9
 simp only[ey,fA,Tryz.f11,Option.getD_some] at hh;have ajf:=aa hh;open zib in exact ZgW
structure S9 (t:Tr) (s:dz) (r:Except Int (Tr×Int×dz)):Prop where
 err:∀e,r=.error e->e≠0
 ok:∀y k s',r=.ok (y,k,s')->t.ok->y.ok
 len:∀y k s',r=.ok (y,k,s')->s'.aL.length+s'.aF.length<=s.aL.length+s.aF.length+2*t.nodes
 aok:∀y k s',r=.ok (y,k,s')->t.ok->Tr.cO s.aF->Tr.cO s'.aF
theorem lM (g:Bool)(aL:List Tr)(cols:List aX)(t:Tr)(s:dz):S9 t s (oZ g aL cols t s):=by
 unfold oZ;split
 ·split
  ·rename_i h1 h2;exact ZeI
  ·refine⟨λ e h=> Taa,λ y k s' h ht=>?_,λ y k s' h=>?_,λ y k s' h _ ha=>?_⟩;all_goals (injection h with h;injection h with h1 h2;injection h2 with h2 h3)
   ·rw[<- h1];exact ht
   ·rw[<- h3];omega
   ·rw[<- h3];exact ha
 ·have hf:=iG aL cols t s
  cases hr:Tr.turn aL cols t s with
  | error e=>dsimp only;exact⟨λ e2 h=>by injection h with h;rw[<- h];exact hf.err _ hr,λ _ _ _ h=> Taa,λ _ _ _ h=> Taa,λ _ _ _ h=> Taa⟩
  | ok p=>
    obtain⟨y,s'⟩:=p;dsimp only;split
    ·rename_i h2;exact ZeI
    ·refine⟨λ e h=> Taa,λ y2 k s2 h ht=>?_,λ y2 k s2 h=>?_,λ y2 k s2 h ht ha=>?_⟩;all_goals (injection h with h;injection h with h1 h2;injection h2 with h2 h3)
     ·rw[<- h1];exact hf.ok _ _ hr ht
     ·rw[<- h3];exact hf.len _ _ hr
     ·rw[<- h3];exact hf.aok _ _ hr ht ha
def tT (l:List Tr):Except Int (List Tr×dz)->Except Int (List Tr×dz)
 | .error e=> .error e
 | .ok (ys,s)=> .ok (l++ys,s)
theorem GY (x:Except Int (List Tr×dz)):tT [] x=x:=by exact Zg3
theorem Dz (l:List Tr)(y:Tr)(x:Except Int (List Tr×dz)):tT l (match x with | .error e=> .error e | .ok (ys,s)=> .ok (y::ys,s))=tT (l++ [y]) x:=by
 cases x with
 | error e=>rfl
 | ok p=>obtain⟨ys,s⟩:=p;show Except.ok (l++y::ys,s)=Except.ok ((l++ [y])++ys,s);rw[append_assoc];rfl
variable{ts:List Tr}
theorem uP(h:k < ts.length):Tr.aQ (ts.drop k)=ts[k].nodes+Tr.aQ (ts.drop (k+1)):=by rw[drop_eq_getElem_cons h,fV,fV,map_cons,sum_cons]
def qj (a:Act)(d:List Deferred)(g4 g5:Nat):Prop:=a.defers=d/\a.tmps.getD 4 undef=aw g4/\a.tmps.getD 5 undef=aw g5
def wT (w0:World)(g4 g5 D:Nat)(w:World):Prop:=aj w0 w/\w0.heap.size<=g4/\w0.heap.size<=g5/\g4≠g5/\g4≠D/\g5≠D/\aB w g4 72 #[.pointer none]/\aB w g5 34 #[af 0]/\w.heap[D]?=some (.deferred (some []))
def jn (w:World)(g4 g5:Nat)(er:Int):World:=(w.setCell ⟨g4,0,none⟩ (.pointer none)).setCell ⟨g5,0,none⟩ (af er)
def jx (w:World)(g4 g5 gp:Nat):World:=(w.setCell ⟨g4,0,none⟩ (aw gp)).setCell ⟨g5,0,none⟩ (af 0)
variable{w0:World}{g2 g4 g5 D:Nat}{qc:Array Value}{R:Nat->Value}
theorem PlF.T7(h:PlF w0 gp g2 qc g4 g5 D R w):wT w0 g4 g5 D w:=⟨h.base,h.new.1,h.new.2.1,h.new.2.2.1,h.new.2.2.2.1,h.new.2.2.2.2,h.z4,h.z5,h.dd⟩
theorem wT.later(h:wT w0 g4 g5 D w)(hb:aj w w'):wT w0 g4 g5 D w':=by
 obtain⟨h1,h2,h3,h4,h5,h6,h7,h8,h9⟩:=h;refine⟨Below.trans h1 (hb.mono h1.size),h2,h3,h4,h5,h6,h7.later hb,h8.later hb,(hb.block D ?_).trans h9⟩;rcases Nat.lt_or_ge D w.heap.size with h | h
 ·exact h
 ·rw[Array.getElem?_eq_none h] at h9;cases h9
variable{S:Nat->Prop}{y:Ex}
theorem my{t:Tr} (h:Tr.aO w S [t] [y]):t.at_ w S y:=by unfold Tr.aO at h;obtain⟨y2,ys,e,h1,_⟩:=h;injection e with e _;rw[e];exact h1
variable{c:PC}{r:Rest}{u v u' v':Value}{ya:List Ex}{s:dz}{hd:List aX}{yh:List Ex}{th:List Tr}
theorem cP.err{ti eD:List Tr}(h:cP c w0 gp g2 qc g4 g5 D r w u v ya s hd yi yh yo ti th eD)(hs:gM gp w u v w' u' v'):wT w0 g4 g5 D w':=by refine⟨Below.trans h.f.base (hs.low h.f.base.size h.f.low (λ q hq=>(h.f.rows 0 Tq q hq).1) (λ q hq=>(h.f.rows 1 Tq q hq).1)),h.f.new.1,h.f.new.2.1,h.f.new.2.2.1,h.f.new.2.2.2.1,h.f.new.2.2.2.2,hs.blk h.f.z4 (h.kp2 h.f.k4),hs.blk h.f.z5 (h.kp2 h.f.k5),(hs.block D (h.kp2 h.f.kD)).trans h.f.dd⟩
theorem zbU.Kal(h:p:=by go_wp2_with fail;exact HE.ae er _ _ (aiD.ae.symm.trans oz.ae) nJ.ae ⟨rfl,rfl,rfl⟩ HW.ae):p:=h
theorem zdo.KaD(h:p:=by simp[go_sem,h,z0,z1,x2,x3,x4,x5,x6,bF]):p:=h
theorem zhP.Kcc(h:p:=by have T9:=aa (sO.ae.aoz (by rw[NV.ae] at Ei ⊢;exact Ei) (my GZ.ae));exact Zcp):p:=h
theorem zfd.Kbd(h:p:=by
 obtain⟨RA,rc,uY,_⟩:=sO.ae.o5.reads;have zY:=aa sO.ae.o5;have HL7:=aa (show yh.length<=1000000 by have:=HFN.ae;have:=qA.ae;have:=GX.ae;omega);have Aa:=aa VX;clear VX;dsimp only at uY zY;subst uY;obtain⟨r1,hr1⟩:∃r1:Rest,r1= { r with o:=Value.slice RA yh.length rc }:=⟨_,rfl⟩;have NV:=aa hr1;rw[<- hr1] at sO GZ;clear hr1;go_wp2_with fail;refine GC (gp:=gp) (k:=15) (B:=w0.heap.size) (gx:=gY) (cs:=c.cells r1 u' v') (r:=Value.slice RA yh.length rc) (ys:=yh) (y:=Kx) (s0:=6) (s1:=28) (d0:=239) (d1:=240) (d2:=241) (d3:=242) (d4:=243) (d5:=244) (d6:=245) (d7:=246) (d8:=247) (d10:=248) (d11:=249) T8 T8 T8 rfl rfl ?_ ?_ ?_ ?_ ?_ ?_ ?_ ?_ ?_ ?_ ?_ ?_ ?_ ?_ sO.ae.f.base.size sO.ae.blk zY.ae HL7.ae Oa.ae TJ.ae.1 TJ.ae.2 ?_
 ·exact Zec
 ·exact Zec
 ·exact Zec
 ·intro ρ w h hc;simp[go_sem,h,hc]
 ·intro ρ w h hb;open zdo in exact Zbw
 ·exact Zec
 ·intro ρ w hc;simp[go_sem,hc.const,bF,wF]
 ·exact Zek
 ·exact ZgI
 ·rfl
 ·exact Zec
 ·exact Zec
 ·intro ρ w A1 n1 c1 h1 h2 hc hf;simp[go_sem,h1,h2,hc,hf]
 ·rw[NV.ae];rfl
 open zhP in exact Zgl):p:=h
theorem zbo.Kaf(h:p:=by
 clear k1;go_wp2_with fail;clear z0 z1 x2 x3 x4 x5 x6;refine(Da c w0 gp { r with o:=rv } t y s1 u1 v1 Jy W2 iV.ae kE.ae xf.ae tU.ae.ps TaL).mono ?_;intro e w6 hp;have ve:=aa (lM c.aK c.aL c.cols t s1)
 cases hr:oZ c.aK c.aL c.cols t s1 with
 | error er=>
   have jY:=uW.ae;rw[hr] at hp ve jY;obtain⟨Kx,ty,u',v',rfl,hst⟩:=hp;have her:=ve.ae.err _ rfl;have xg:X=.error er:=by rw[uH.ae,jY];rfl
   have oz:=aa xg;have nJ:=aa her;have t1:(er != 0)=true:=by simp[her]
   have bg:=ah w6 (.cells (ay Kx) 46);have HW:=aa ((tU.ae.err hst).later bg);clear xg hr her hst jY ve uW tU bg;go_upto_region 50 with fail;generalize w6.alloc (.cells (ay Kx) 46)=WD at*;obtain⟨_,_,_,uQ,_,_,b4,b5,_⟩:=HW.ae;open zbU in exact ZaF
 | ok p=>
   obtain⟨t2,ty,s2⟩:=p;have jY:=uW.ae;rw[hr] at hp ve jY;obtain⟨Kx,u',v',K7,rfl,uG,pJ,hst⟩:=hp;have rQ:=tU.ae.call hst pJ;have WO:=tU.ae.tree hst pJ uG;have bg:=ah w6 (.cells (ay Kx) 46);have XZ:=aB.new w6 46 (ay Kx);have sO:=aa (rQ.later bg);have GZ:=aa ((Dd.later (w0:=w0) (gp:=gp) (R:=PR u' v' { r with o:=rv }) bg).trees (Tr.fO WO));have TJ:=aa (show w6.heap.size≠gp/\rv.ownBlock≠some w6.heap.size from⟨by have:=rQ.f.lt;omega,λ e=>by have:=(rQ.f.rows 5 Tq _ e).2.1;omega⟩);have DB:=aa (ve.ae.len _ _ _ rfl);have ER:=aa (show X=tT (eD++ [t2]) (ep c.aK c.aL c.cols (q.ord.drop (k+1)) s2) by
    rw[uH.ae,jY]
    exact Dz eD t2 _)
   have VX:=rQ.t5.length;clear hr jY hst pJ uG rQ WO bg ve uW uH tU;go_upto_region 50 with fail;open zfd in exact Zdb):p:=h
theorem zgA.KbI(h:p:=by
 rw[hn,<- ft] at z6;clear hE QO JE TG hz ND Gz TH NW hX hP hR HX hn ft;simp only[bK,fA,Tryz.f28,Option.getD_some];go_wp2_with fail;clear z6;go_loopw [224] (λ i wr=>∃(k:Nat) (rv u1 v1:Value) (Jy yh:List Ex) (s1:dz) (eD:List Tr),k<=zs.length/\i=af k/\cP c w0 gp g2 (fp q L) g4 g5 D { r with o:=rv } wr u1 v1 Jy s1 hd yi KK yh ti th eD/\X=tT eD (ep c.aK c.aL c.cols (q.ord.drop k) s1)/\s1.aL.length+s1.aF.length+2*Tr.aQ ((q.ord.map (·.1)).drop k)<=1000000/\eD.length=k) (λ i _=>zs.length - (intOf i).toNat);case atStart=>exact⟨0,r.o,u,v,ya,[],s,[],Nat.zero_le _,rfl,jN.ae,by rw[drop_zero,GY];exact aiD.ae,by rw[drop_zero];exact HLEN.ae,rfl⟩
 case round=>
  clear jN;obtain⟨k,rv,u1,v1,Jy,yh,s1,eD,hk,rfl,hP,TI,NW,Tv⟩:=hrel;have uH:=aa TI;have AJ:=aa NW;have jN:=aa hP;have qA:=aa Tv;clear TI NW hP Tv;by_cases hlt:k < zs.length
  ·have fI:k < q.ord.length:=by rw[<- GX.ae];exact hlt
   obtain⟨b,off,hA,Cr,hcell⟩:∃b off,L.o.A=some ⟨b,off,none⟩/\b < w0.heap.size/\ck w0 b (off+k*8) zs[k].1/\w0.cell? ⟨b,off+k*8+7,none⟩=some zs[k].2:=by exact Zhi
   have hb8:zs[k].2=.bool (q.ord[k]'fI).2:=by have h1:=congrArg (λ l=>l[k]?) J2.ae;simp only[getElem?_map,getElem?_eq_getElem hlt,getElem?_eq_getElem fI,Option.map_some] at h1;injection h1
   have rI:(q.ord[k]'fI).1.at_ w0 (Old w0) zs[k].1:=by
    have hl2:k <((q.ord.map λ y=>(y.1,Value.bool y.2)).map (·.1)).length:=by simpa using fI
    obtain⟨Kx,h1,h2⟩:=pI hl2 XS.ae;exact Zfb
   have fW:(q.ord[k]'fI).1.ok:=dN.1 HIL.ae _ (mem_map_of_mem (getElem_mem fI));have hnd:Tr.aQ ((q.ord.map (·.1)).drop k)=(q.ord[k]'fI).1.nodes+Tr.aQ ((q.ord.map (·.1)).drop (k+1)):=by have h1:=uP (ts:=q.ord.map (·.1)) (k:=k) (by simpa using fI);simpa using h1
   have hdr:ep c.aK c.aL c.cols (q.ord.drop k) s1=(match oZ c.aK c.aL c.cols (q.ord[k]'fI).1 s1 with
     | .error e=> .error e
     | .ok (Kx,_,s')=>match ep c.aK c.aL c.cols (q.ord.drop (k+1)) s' with
       | .error e=> .error e
       | .ok (ys,Lt)=> .ok (Kx::ys,Lt)):=by
    rw[drop_eq_getElem_cons fI];obtain⟨t,bb⟩:=q.ord[k];rfl
   rw[hb8] at hcell;generalize zs[k].1=y at*;generalize (q.ord[k]'fI).2=b8 at*;generalize (q.ord[k]'fI).1=t at*;obtain⟨hex,h7⟩:=hcell;have iE:=hex.keep (λ o=>jN.ae.f.base.cell (p:=⟨b,o,none⟩) Cr);have h72:=(jN.ae.f.base.cell (p:=⟨b,off+k*8+7,none⟩) Cr).trans h7;unfold ck at iE;have xf:=aa rI;have kE:=aa fW;have HND:=aa hnd;have uW:=aa hdr;have HAA:=aa hA;rw[hA];clear hex h7 rI fW hnd hdr hA Cr hb8 fI;go_upto_region 49 with fail;clear iE h72;have k1:=aB.new wr 117 #[ag y.op,ag y.v.k,af y.v.n,.string y.v.s,.string y.name,af y.width,.slice y.A y.n y.c,.bool b8];have ME:=ah wr (.cells #[ag y.op,ag y.v.k,af y.v.n,.string y.v.s,.string y.name,af y.width,.slice y.A y.n y.c,.bool b8] 117);generalize wr.alloc (.cells #[ag y.op,ag y.v.k,af y.v.n,.string y.v.s,.string y.name,af y.width,.slice y.A y.n y.c,.bool b8] 117)=W2 at*;have tU:=aa (jN.ae.later ME);generalize wr.heap.size=g12 at*;clear jN ME;open zbo in exact Zay
  ·have GN:k=zs.length:=by omega
   have hXo:X=.ok (eD,s1):=by rw[uH.ae,GN,GX.ae,drop_length];show Except.ok (eD++ [],s1)=_;rw[append_nil]
   have U0:=aa hXo;clear hXo;subst GN;have HW:=aa jN.ae.f.T7;obtain⟨_,_,_,uQ,_,_,b4,b5,_⟩:=HW.ae;have c4:=b4.cell 0;have c5:=(b5.far (p:=⟨g4,0,none⟩) (Ne.symm uQ) (aw gp)).cell 0;have f4:=b4.frozen 0;have f5:=(b5.far (p:=⟨g4,0,none⟩) (Ne.symm uQ) (aw gp)).frozen 0;simp only[getElem?_toArray,getElem?_cons_zero] at c4 c5;clear b4 b5 uQ;go_wp2_with fail;exact HF.ae _ _ _ u1 v1 Jy s1 yh eD (aiD.ae.symm.trans U0.ae) ⟨rfl,rfl,rfl⟩ jN.ae):p:=h
theorem zic.Kcm(h:p:=by have jN:=aa hP;have hR:=hP.f.z2;unfold fp at hR;open zgA in exact Zev):p:=h
theorem zeJ.Ka1(h:p:=by
 obtain⟨hn,zs,hz,ND,Gz⟩:=Ye;rw[length_map] at hn;have ft:zs.length=q.ord.length:=by have:=congrArg List.length ND;simpa using this
 have HX:=aa (show∃X,X=ep c.aK c.aL c.cols q.ord s from⟨_,rfl⟩);obtain⟨X,hX⟩:=HX.ae;open zic in exact ZgW):p:=h
theorem WN (c:PC)(w0:World)(gp g2 g4 g5 D:Nat)(q:Qy)(L:QL)(r:Rest)(u v:Value)(ya:List Ex)(s:dz)(hd:List aX)(yi KK:List Ex)(ti th:List Tr)(T:Array Value)(hT:T.size=252)
  (h2:T.getD 2 undef=aw g2) (h4:T.getD 4 undef=aw g4) (h5:T.getD 5 undef=aw g5) (h6:T.getD 6 undef=aw gp) (d:List Deferred) (w:World) (Q:Exit->Act->World->Prop)
  (JE:c.Ok w0) (TG:Tr.cO (q.ord.map (·.1))) (Ye:eO w0 (q.ord.map λ y=>(y.1,.bool y.2)) L.o.A L.o.n) (TH:q.ord.length<=1000000) (NW:s.aL.length+s.aF.length+2*Tr.aQ (q.ord.map (·.1))<=1000000)
  (hP:cP c w0 gp g2 (fp q L) g4 g5 D r w u v ya s hd yi KK [] ti th [])
  (hE:∀er a W,ep c.aK c.aL c.cols q.ord s=.error er->er≠0->qj a d g4 g5->wT w0 g4 g5 D W->Q .ret a (jn W g4 g5 er))
  (QO:∀a W r' u' v' pZ s' yh eD,ep c.aK c.aL c.cols q.ord s=.ok (eD,s')->qj a d g4 g5->cP c w0 gp g2 (fp q L) g4 g5 D r' W u' v' pZ s' hd yi KK yh ti th eD->Q .ret a (jx W g4 g5 gp)):
  (fA bK 9).wp Tryz.prog Q { tmps:=T,defers:=d } w:=by
 open zeJ in exact ZcB
variable{x x':Except Int (List Tr×dz)}
theorem Rj(l:List Tr)(y:Tr) (h:x'=(match x with | .error e=> .error e | .ok (ys,s)=> .ok (y::ys,s))):tT l x'=tT (l++ [y]) x:=by rw[h];exact Dz l y x
theorem zbV.Kal(h:p:=by go_wp2_with fail;exact HE.ae er _ _ (.inl (HJ.ae.symm.trans oz.ae)) nJ.ae ⟨rfl,rfl,rfl⟩ HW2.ae):p:=h
theorem zbW.Kal(h:p:=by go_wp2_with fail;exact HE.ae 40 _ _ (.inl (HJ.ae.symm.trans oz.ae)) WC ⟨rfl,rfl,rfl⟩ HW2.ae):p:=h
theorem zdp.KaD(h:p:=by simp[go_sem,h,z0,z1,x2,x3,x4,x5,x6,bF]):p:=h
theorem zfb.Kbc(h:p:=by go_upto_region 41 with fail;generalize w6.alloc (.cells (ay Kx) 46)=WD at*;go_wp2_with fail;refine(uf ty er WD).mono ?_;rintro e uv ⟨rfl,JJ⟩;rw[BM nJ.ae];have HW2:=aa (HW.ae.later JJ);clear HW JJ;obtain⟨_,_,_,uQ,_,_,b4,b5,_⟩:=HW2.ae;open zbV in exact ZaF):p:=h
theorem zhQ.Kcc(h:p:=by have T9:=aa (sO.ae.aoy (by rw[NV.ae] at Ei ⊢;exact Ei) (my GZ.ae));exact Zcp):p:=h
theorem zfe.Kbd(h:p:=by
 have HO:=aa VX;clear VX;go_wp2_with fail;refine(uf ty 0 WD).mono ?_;rintro e uv ⟨rfl,JJ⟩;rw[FL]
 cases hgo:bZ ty 1 with
 | false=>
   rw[if_pos rfl];have oz:=aa (show X=.error 40 by
    rw[uH.ae,IW.ae]
    show tT eD (if bZ ty 1=false then _ else _)=_
    rw[if_pos hgo]
    rfl)
   have HW2:=aa (sO.ae.f.T7.later JJ);clear JJ sO GZ Oa hgo IW;obtain⟨_,_,_,uQ,_,_,b4,b5,_⟩:=HW2.ae;open zbW in exact ZaF
 | true=>
   rw[if_neg WC];have ER:=aa (show X=tT (eD++ [t2]) (dA c.aK c.aL c.cols (q.ft.drop (k+1)) s2) by
    rw[uH.ae,IW.ae]
    refine Rj eD t2 ?_
    show(if bZ ty 1=false then _ else _)=_
    rw[if_neg (by rw[hgo];decide)])
   have HPA:=aa (sO.ae.later JJ);have apR:=aa ((Dd.later (w0:=w0) (gp:=gp) (R:=PR u' v' { r with j:=rv }) JJ).trees GZ.ae);have HYA:=aa (Oa.ae.later JJ);clear sO GZ Oa JJ uH IW hgo;have sO:=HPA;have GZ:=apR;have Oa:=HYA;clear HPA apR HYA;obtain⟨RA,rc,uY,_⟩:=sO.ae.o4.reads;have zY:=aa sO.ae.o4;have HL7:=aa (show yh.length<=1000000 by have:=HFN.ae;have:=qA.ae;have:=GX.ae;have:=HO.ae;omega);dsimp only at uY zY;subst uY;obtain⟨r1,hr1⟩:∃r1:Rest,r1= { r with j:=Value.slice RA yh.length rc }:=⟨_,rfl⟩;have NV:=aa hr1;rw[<- hr1] at sO GZ;clear hr1;go_wp2_with fail;refine GC (gp:=gp) (k:=14) (B:=w0.heap.size) (gx:=gY) (cs:=c.cells r1 u' v') (r:=Value.slice RA yh.length rc) (ys:=yh) (y:=Kx) (s0:=6) (s1:=22) (d0:=209) (d1:=210) (d2:=211) (d3:=212) (d4:=213) (d5:=214) (d6:=215) (d7:=216) (d8:=217) (d10:=218) (d11:=219) T8 T8 T8 rfl rfl ?_ ?_ ?_ ?_ ?_ ?_ ?_ ?_ ?_ ?_ ?_ ?_ ?_ ?_ sO.ae.f.base.size sO.ae.blk zY.ae HL7.ae Oa.ae TJ.ae.1 TJ.ae.2 ?_
   ·exact Zec
   ·exact Zec
   ·exact Zec
   ·intro ρ w h hc;simp[go_sem,h,hc]
   ·intro ρ w h hb;open zdp in exact Zbw
   ·exact Zec
   ·intro ρ w hc;simp[go_sem,hc.const,bF,wF]
   ·exact Zek
   ·exact ZgI
   ·rfl
   ·exact Zec
   ·exact Zec
   ·intro ρ w A1 n1 c1 h1 h2 hc hf;simp[go_sem,h1,h2,hc,hf]
   ·rw[NV.ae];rfl
   open zhQ in exact Zgl):p:=h
theorem zbp.Kaf(h:p:=by
 clear k1;go_wp2_with fail;clear z0 z1 x2 x3 x4 x5 x6;refine(Da c w0 gp { r with j:=rv } t y s1 u1 v1 Jy W2 IH.ae kE.ae xf.ae tU.ae.ps TaL).mono ?_;intro e w6 hp;have ve:=aa (lM c.aK c.aL c.cols t s1)
 cases hr:oZ c.aK c.aL c.cols t s1 with
 | error er=>
   open zfb in exact Zda
 | ok p=>obtain⟨t2,ty,s2⟩:=p;have jY:=uW.ae;rw[hr] at hp ve jY;obtain⟨Kx,u',v',K7,rfl,uG,pJ,hst⟩:=hp;have rQ:=tU.ae.call hst pJ;have WO:=tU.ae.tree hst pJ uG;have bg:=ah w6 (.cells (ay Kx) 46);have XZ:=aB.new w6 46 (ay Kx);have sO:=aa (rQ.later bg);have GZ:=aa ((Dd.later (w0:=w0) (gp:=gp) (R:=PR u' v' { r with j:=rv }) bg).trees (Tr.fO WO));have TJ:=aa (show w6.heap.size≠gp/\rv.ownBlock≠some w6.heap.size from⟨by have:=rQ.f.lt;omega,λ e=>by have:=(rQ.f.rows 4 Tq _ e).2.1;omega⟩);have DB:=aa (ve.ae.len _ _ _ rfl);have IW:=aa jY;have VX:=rQ.t4.length;clear hr jY hst pJ uG rQ WO bg ve uW tU;go_upto_region 41 with fail;open zfe in exact Zdb):p:=h
theorem zfi.Kbe(h:p:=by clear jN ME;open zbp in exact Zay):p:=h
theorem zcT.Kaw(h:p:=by
 have jN:=aa Gz;have b2:=Gz.f.z2;unfold fp at b2;have c5:=b2.cell 5;simp only[Uaa] at c5;rw[hn,<- ND] at c5;clear hE hF ih q1 q2 q3 q4 q5 Az TG D9 hz Gz b2 hn ND;simp only[bK,fA,Tryz.f28,Option.getD_some];go_wp2_with fail;clear c5;go_loopw [192] (λ i wr=>∃(k:Nat) (rv u1 v1:Value) (Jy yh:List Ex) (s1:dz) (eD:List Tr),k<=zs.length/\i=af k/\cP c w0 gp g2 (fp q L) g4 g5 D { r with j:=rv } wr u1 v1 Jy s1 hd yi yh [] ti eD []/\X=tT eD (dA c.aK c.aL c.cols (q.ft.drop k) s1)/\s1.aL.length+s1.aF.length+2*Tr.aQ (q.ft.drop k)+2*Tr.aQ (q.ord.map (·.1))<=1000000/\eD.length=k) (λ i _=>zs.length - (intOf i).toNat);case atStart=>exact⟨0,r.j,u,v,ya,[],s,[],Nat.zero_le _,rfl,jN.ae,by rw[drop_zero,GY];exact HJ.ae,by rw[drop_zero];exact Aa.ae,rfl⟩
 case round=>
  rename_i K hK;clear jN;obtain⟨k,rv,u1,v1,Jy,yh,s1,eD,hk,rfl,Gz,TI,D9,Tv⟩:=hrel;have uH:=aa TI;have AJ:=aa D9;have jN:=aa Gz;have qA:=aa Tv;clear TI D9 Gz Tv;by_cases hlt:k < zs.length
  ·have fI:k < q.ft.length:=by rw[<- GX.ae];exact hlt
   obtain⟨b,off,hA,Cr,hex⟩:∃b off,L.h.A=some ⟨b,off,none⟩/\b < w0.heap.size/\ck w0 b (off+k*7) zs[k]:=by exact Zhi
   have rI:(q.ft[k]'fI).at_ w0 (Old w0) zs[k]:=by obtain⟨Kx,h1,h2⟩:=pI fI oC.ae;rw[getElem?_eq_getElem hlt] at h1;injection h1 with h1;rw[h1];exact h2
   have fW:(q.ft[k]'fI).ok:=dN.1 Q1.ae _ (getElem_mem fI);have hnd:Tr.aQ (q.ft.drop k)=(q.ft[k]'fI).nodes+Tr.aQ (q.ft.drop (k+1)):=uP fI;have hdr:dA c.aK c.aL c.cols (q.ft.drop k) s1=(match oZ c.aK c.aL c.cols (q.ft[k]'fI) s1 with
     | .error e=> .error e
     | .ok (Kx,k2,s')=>if bZ k2 1=false then .error 40 else match dA c.aK c.aL c.cols (q.ft.drop (k+1)) s' with
       | .error e=> .error e
       | .ok (ys,Lt)=> .ok (Kx::ys,Lt)):=by
    rw[drop_eq_getElem_cons fI];rfl
   generalize zs[k]=y at*;generalize (q.ft[k]'fI)=t at*;have iE:=hex.keep (λ o=>jN.ae.f.base.cell (p:=⟨b,o,none⟩) Cr);unfold ck at iE;have xf:=aa rI;have kE:=aa fW;have HND:=aa hnd;have uW:=aa hdr;have HAA:=aa hA;rw[hA];clear hex rI fW hnd hdr hA Cr fI;go_upto_region 40 with fail;open zfi in exact Zde
  ·have GN:k=zs.length:=by omega
   have U0:=aa (show X=.ok (eD,s1) by
    rw[uH.ae,GN,GX.ae,drop_length]
    show Except.ok (eD++ [],s1)=_
    rw[append_nil])
   subst GN
   have key:∀T:Array Value,T.size=252->T.getD 2 undef=aw g2->T.getD 4 undef=aw g4->T.getD 5 undef=aw g5->T.getD 6 undef=aw gp->(fA bK 9).wp Tryz.prog Q { tmps:=T,defers:=d } wr:=λ T hT h2 h4 h5 h6=>
    WN c w0 gp g2 g4 g5 D q L { r with j:=rv } u1 v1 Jy s1 hd yi yh ti eD T hT h2 h4 h5 h6 d wr Q IH.ae Q3.ae Q4.ae G6.ae (by have:=AJ.ae;omega) jN.ae
     (λ er a W he hne ha hw=>HE.ae er a W (.inr ⟨eD,s1,HJ.ae.symm.trans U0.ae,he⟩) hne ha hw)
     (λ a W r' u' v' pZ s' yo KK he ha hp=>HF.ae a W r' u' v' pZ s1 s' yh yo eD KK (HJ.ae.symm.trans U0.ae) he ha hp)
   exact Zcd):p:=h
theorem zeK.Ka1(h:p:=by obtain⟨hn,zs,q5,Az⟩:=hih;have ND:zs.length=q.ft.length:=Az.length;obtain⟨X,hz⟩:∃X,X=dA c.aK c.aL c.cols q.ft s:=⟨_,rfl⟩;have HE:=aa hE;open zcT in exact Zbd):p:=h
theorem Rk (c:PC)(w0:World)(gp g2 g4 g5 D:Nat)(q:Qy)(L:QL)(r:Rest)(u v:Value)(ya:List Ex)(s:dz)(hd:List aX)(yi:List Ex)(ti:List Tr)(T:Array Value)(hT:T.size=252)
  (h2:T.getD 2 undef=aw g2) (h4:T.getD 4 undef=aw g4) (h5:T.getD 5 undef=aw g5) (h6:T.getD 6 undef=aw gp) (d:List Deferred) (w:World) (Q:Exit->Act->World->Prop)
  (ih:c.Ok w0) (q1:Tr.cO q.ft) (hih:gJ w0 q.ft L.h.A L.h.n) (q2:q.ft.length<=1000000) (q3:Tr.cO (q.ord.map (·.1))) (q4:eO w0 (q.ord.map λ y=>(y.1,.bool y.2)) L.o.A L.o.n) (TG:q.ord.length<=1000000) (D9:s.aL.length+s.aF.length+2*Tr.aQ q.ft+2*Tr.aQ (q.ord.map (·.1))<=1000000)
  (Gz:cP c w0 gp g2 (fp q L) g4 g5 D r w u v ya s hd yi [] [] ti [] [])
  (hE:∀er a W,(dA c.aK c.aL c.cols q.ft s=.error er\/∃eD s',dA c.aK c.aL c.cols q.ft s=.ok (eD,s')/\ep c.aK c.aL c.cols q.ord s'=.error er)->er≠0->qj a d g4 g5->wT w0 g4 g5 D W->Q .ret a (jn W g4 g5 er))
  (hF:∀a W r' u' v' pZ s1 s' yh yo eD KK,dA c.aK c.aL c.cols q.ft s=.ok (eD,s1)->ep c.aK c.aL c.cols q.ord s1=.ok (KK,s')->qj a d g4 g5->cP c w0 gp g2 (fp q L) g4 g5 D r' W u' v' pZ s' hd yi yh yo ti eD KK->Q .ret a (jx W g4 g5 gp)):
  (fA bK 8).wp Tryz.prog Q { tmps:=T,defers:=d } w:=by
 open zeK in exact ZcB
structure JK (gp B:Nat) (W:World) (cs:Array Value) (ri rh:Value) (yi:List Ex) (y:Ex) (hd:List aX) (ES:aX) (s5 s7 s8 ET TK:Option Value) (s21:Bool) (w:World):Prop where
 e5:∀x,s5=some x->x=ri
 e8:s8.isSome=true->s5.isSome=true/\s7.isSome=true
 e21:s21=true->s8.isSome=true
 e18:TK.isSome=true->ET.isSome=true
 z7:s8=none->∀x,s7=some x->∃g,x=aI g 1 1/\aB w g 46 (bF y).toArray
 z17:TK=none->∀x,ET=some x->∃g,x=aI g 1 1/\aB w g 113 (aS ES).toArray
 items:aH bF 46 7 w B (s8.getD ri) (yi++if s8.isSome=true then [y] else [])
 head:aH aS 113 2 w B (TK.getD rh) (hd++if TK.isSome=true then [ES] else [])
 mvi:Mv W ri (s8.getD ri)
 mvh:Mv W rh (TK.getD rh)
 blk:aB w gp 81 (if s21=true then cs.setIfInBounds 13 (s8.getD ri)else cs)
 far:∀b,b < W.heap.size->b≠gp->ri.ownBlock≠some b->rh.ownBlock≠some b->w.heap[b]?=W.heap[b]?
 os:w.os=W.os
 tape:w.tape=W.tape
 output:w.output=W.output
 size:W.heap.size<=w.heap.size
section
variable {gp B:Nat} {W w w':World} {cs:Array Value} {ri rh:Value} {yi:List Ex} {y:Ex} {hd:List aX} {ES:aX} {s5 s7 s8 ET TK:Option Value} {s21:Bool}
theorem JK.later (h:JK gp B W cs ri rh yi y hd ES s5 s7 s8 ET TK s21 w)(hb:aj w w'):JK gp B W cs ri rh yi y hd ES s5 s7 s8 ET TK s21 w':=
 ⟨h.e5,h.e8,h.e21,h.e18,λ h1 x hx=>by obtain⟨g,k1,k2⟩:=h.z7 h1 x hx;exact⟨g,k1,k2.later hb⟩,λ h1 x hx=>by obtain⟨g,k1,k2⟩:=h.z17 h1 x hx;exact⟨g,k1,k2.later hb⟩,h.items.later hb,h.head.later hb,h.mvi,h.mvh,h.blk.later hb,λ b h1 h2 h3 h4=>(hb.block b (Nat.lt_of_lt_of_le h1 h.size)).trans (h.far b h1 h2 h3 h4),hb.os.trans h.os,hb.tape.trans h.tape,hb.output.trans h.output,Nat.le_trans h.size hb.size⟩
theorem JK.avU (h:JK gp B W cs ri rh yi y hd ES s5 s7 none ET TK false w)(h5:s5.isSome=true)(h7:s7.isSome=true) {a:Value}(ho:aH bF 46 7 w' B a (yi++ [y]))(hg:w.grownBy w' ri.ownBlock)(hm:Mv w ri a):JK gp B W cs ri rh yi y hd ES s5 s7 (some a) ET TK false w':=by
 have hi:aH bF 46 7 w B ri yi:=by simpa using h.items
 refine⟨h.e5,λ _=>⟨h5,h7⟩,λ _=>rfl,h.e18,(λ e=>by cases e),λ h1 x hx=>by obtain⟨g,k1,k2⟩:=h.z17 h1 x hx;exact⟨g,k1,dB k2 hi WC hg⟩,ho,h.head.past hi WC hg,hm.later h.size,h.mvh,dB h.blk hi WC hg,λ b h1 h2 h3 h4=>(hg.block b (Nat.lt_of_lt_of_le h1 h.size) (Ne.symm h3)).trans (h.far b h1 h2 h3 h4),hg.os.trans h.os,hg.tape.trans h.tape,hg.output.trans h.output,Nat.le_trans h.size hg.size⟩
theorem JK.apS (h:JK gp B W cs ri rh yi y hd ES s5 s7 s8 ET none s21 w)(h8:s8.isSome=true)(h17:ET.isSome=true) {a:Value}(ho:aH aS 113 2 w' B a (hd++ [ES]))(hg:w.grownBy w' rh.ownBlock)(hm:Mv w rh a):JK gp B W cs ri rh yi y hd ES s5 s7 s8 ET (some a) s21 w':=by
 have hi:aH aS 113 2 w B rh hd:=by simpa using h.head
 refine⟨h.e5,h.e8,h.e21,λ _=>h17,λ e=>by(rw[e] at h8;cases h8),(λ e=>by cases e),h.items.past hi WC hg,ho,h.mvi,hm.later h.size,dB h.blk hi WC hg,λ b h1 h2 h3 h4=>(hg.block b (Nat.lt_of_lt_of_le h1 h.size) (Ne.symm h4)).trans (h.far b h1 h2 h3 h4),hg.os.trans h.os,hg.tape.trans h.tape,hg.output.trans h.output,Nat.le_trans h.size hg.size⟩
theorem JK.apT (h:JK gp B W cs ri rh yi y hd ES s5 s7 s8 ET TK false w)(h8:s8.isSome=true):JK gp B W cs ri rh yi y hd ES s5 s7 s8 ET TK true (w.setCell ⟨gp,13,none⟩ (s8.getD ri)):=by
 have hk:aB w gp 81 cs:=h.blk;have hn8:s8≠none:=λ e=>by rw[e] at h8;cases h8
 have hf:=λ b (hb:b≠gp)=>Below.heap_setCell w ⟨gp,13,none⟩ (s8.getD ri) b hb
 have hz:∀ {g:Nat} {t:TypeId} {c:Array Value},aB w g t c->t≠81->g≠gp:=λ k1 k2 e=>by subst e;have:=k1.symm.trans hk;injection this with this;injection this with _ this _;exact k2 this
 refine⟨h.e5,h.e8,λ _=>h8,h.e18,λ e=>absurd e hn8,λ h1 x hx=>by obtain⟨g,k1,k2⟩:=h.z17 h1 x hx;exact⟨g,k1,(hf g (hz k2 WC)).trans k2⟩,h.items.keep λ g hg2=>hf g λ e=>h.items.other hk WC Taf,h.head.keep λ g hg2=>hf g λ e=>h.head.other hk WC Taf,h.mvi,h.mvh,hk.aT 13 _,λ b h1 h2 h3 h4=>(hf b h2).trans (h.far b h1 h2 h3 h4),h.os,h.tape,h.output,by rw[World.size_setCell];exact h.size⟩
end
def qB (gp B:Nat)(W:World)(cs:Array Value)(ri rh:Value)(yi:List Ex)(y:Ex)(hd:List aX)(ES:aX)(σ:Nat->Option Value)(w:World):Prop:=JK gp B W cs ri rh yi y hd ES (σ 5) (σ 7) (σ 8) (σ 17) (σ 18) (σ 21).isSome w
variable{B:Nat}{W:World}{cs:Array Value}{rh:Value}{ES:aX}{s5 s7 s8 ET TK:Option Value}{s21:Bool}
theorem JK.c12{ri:Value}      (h:JK gp B W cs ri rh yi y hd ES s5 s7 s8 ET TK s21 w)(hch:cs[12]?=some rh):w.cell? ⟨gp,12,none⟩=some rh:=by
 rw[h.blk.cell]
 cases s21 with
 | false=>exact hch
 | true=>rw[if_pos rfl,Array.getElem?_setIfInBounds_ne Tq];exact hch
variable{P:Program}{o:Oper}{ρ:Operand->Value}{T:Value->World->Prop}
theorem Rl(h:(execOp ρ o).run P w=.ok .skip w')(ht:T undef w'):xj P o ρ w T:=by unfold xj;rw[h];exact ht
def rR (n:Nat):Code->Option Code
 | .region id ops b=>if id=n then some (.region id ops b)else none
 | .seq a b=>match rR n a with | some c=>some c | none=>rR n b
 | .cond _ a b=>match rR n a with | some c=>some c | none=>rR n b
 | .block _ c=>rR n c
 | .loop c=>rR n c
 | _=>none
noncomputable def DF:Code:=(rR 35 (fA bK 7)).getD .skip
def lbU (gp:Nat)(rh:Value)(y:Ex)(nm:ByteArray)(ty:Int)(g16:Nat):Nat->Value:=λ i=>if i=0 then(aw gp)else if i=1 then(aw gp)else if i=2 then(aw gp)else if i=3 then(aw gp)else if i=4 then(ba gp 13)else if i=6 then(.agg (bF y).toArray)else if i=9 then(aw gp)else if i=10 then(aw gp)else if i=11 then(ba gp 12)else if i=12 then(rh)else if i=13 then(ba g16 7)else if i=14 then(.string nm)else if i=15 then(ag ty)else if i=16 then(.agg (aS ⟨nm,ty⟩).toArray)else if i=19 then(aw gp)else if i=20 then(ba gp 13)else undef
section
variable {gp B gY g16:Nat} {W:World} {cs:Array Value} {ri rh:Value} {yi:List Ex} {y:Ex} {hd:List aX} {nm:ByteArray} {ty:Int} {Q:Exit->Act->World->Prop} {T:Array Value} {d:List Deferred}
theorem zdm.KaD(h:p:=by show(execOp ρ _).run Tryz.prog w9a=.ok (.value (.agg (bF y).toArray)) w9a;simp[go_sem,r0,z0,z1,x2,x3,x4,x5,x6,bF]):p:=h
theorem DG (hT:T.size=252)(es0:T.getD 6 undef=aw gp)(es1:T.getD 17 undef=aw gY)(es2:T.getD 16 undef=aw g16)(es3:T.getD 18 undef=ag ty)
  (hci:cs[13]?=some ri) (hch:cs[12]?=some rh) (hB:B<=W.heap.size) (hblk:aB W gp 81 cs) (hoi:aH bF 46 7 W B ri yi) (hoh:aH aS 113 2 W B rh hd) (ND:yi.length<=1000000) (hlh:hd.length<=1000000)
  (XZ:aB W gY 46 (bF y).toArray) (hY1:gY≠gp) (hY2:ri.ownBlock≠some gY) (hY3:rh.ownBlock≠some gY) (hn:W.cell? ⟨g16,7,none⟩=some (.string nm)) (hN0:g16 < W.heap.size) (hN1:g16≠gp) (hN2:ri.ownBlock≠some g16) (hN3:rh.ownBlock≠some g16)
  (mg:∀adT adU z167 z168 adV adW z171 adX z173 adY z175 adZ aea aeb aec aed aee z182 z183 aef aeg aeh aei w9a a b s7 ET,JK gp B W cs ri rh yi y hd ⟨nm,ty⟩ (some ri) s7 (some a) ET (some b) true w9a->Q .normal { tmps:=(((((((((((((((((((((((T.setIfInBounds 165 adT).setIfInBounds 166 adU).setIfInBounds 167 z167).setIfInBounds 168 z168).setIfInBounds 169 adV).setIfInBounds 170 adW).setIfInBounds 171 z171).setIfInBounds 172 adX).setIfInBounds 173 z173).setIfInBounds 174 adY).setIfInBounds 175 z175).setIfInBounds 176 adZ).setIfInBounds 177 aea).setIfInBounds 178 aeb).setIfInBounds 179 aec).setIfInBounds 180 aed).setIfInBounds 181 aee).setIfInBounds 182 z182).setIfInBounds 183 z183).setIfInBounds 184 aef).setIfInBounds 185 aeg).setIfInBounds 186 aeh).setIfInBounds 187 aei),defers:=d } (w9a.setCell ⟨gp,12,none⟩ b)):
  DF.wp Tryz.prog Q { tmps:=T,defers:=d } W:=by
 obtain⟨f,rfl⟩:=kU T hT;have es0:f 6=_:=es0;have es1:f 17=_:=es1;have es2:f 16=_:=es2;have es3:f 18=_:=es3;unfold DF;simp only[bK,fA,Tryz.f28,Option.getD_some,rR,Nat.reduceEqDiff,if_true,if_false];refine qR _ _ (take_append_drop 22 _).symm (lbU gp rh y nm ty g16) [5,7,8,17,18,21] (qB gp B W cs ri rh yi y hd ⟨nm,ty⟩) (λ σ w9a h=>JK.later h (Below.refl _ _).drew) ⟨(λ x e=>by cases e),(λ e=>by cases e),(λ e=>by cases e),(λ e=>by cases e),(λ _ x e=>by cases e),(λ _ x e=>by cases e),by simpa using hoi,by simpa using hoh,Mv.refl _ _,Mv.refl _ _,hblk,λ _ _ _ _ _=>rfl,rfl,rfl,rfl,Nat.le_refl _⟩ T8 T8 T8 T8 ?_ ?_
 ·simp only[take_succ_cons,take_zero];refine⟨Zci,Zci,Zci,?_,?_,?_,?_,?_,?_,Zci,?_,?_,?_,?_,?_,?_,?_,?_,?_,?_,?_,?_,trivial⟩
  ·intro ρ w9a σ hc hG hr he hno;have r0:ρ (.tmp 167)=aw gp:=hr.1;exact Za3
  ·intro ρ w9a σ hc hG hr he hno;have r0:ρ (.tmp 168)=aw gp:=hr.1;exact ZeK
  ·intro ρ w9a σ hc hG hr he hno;have r0:ρ (.tmp 169)=ba gp 13:=hr.1;refine⟨rfl,?_⟩;unfold qB at hG;rw[if_pos WC];have pR:=hno WC
   have h8n:σ 8=none:=by
    cases h:σ 8 with
    | none=>rfl
    | some a=>have:=(hG.e8 (by rw[h];rfl)).1;rw[pR] at this;cases this
   have aej:(σ 21).isSome=false:=by
    cases h:(σ 21).isSome with
    | false=>rfl
    | true=>have:=hG.e21 h;rw[h8n] at this;cases this
   have hb:=hG.blk;rw[aej] at hb;have hb:aB w9a gp 81 cs:=hb;have c13:=(hb.cell 13).trans hci;refine aq (v:=ri) (w':=w9a) (by simp[go_sem,r0,c13]) ?_;show qB _ _ _ _ _ _ _ _ _ _ _ _;unfold qB;simp only[jJ,Nat.reduceEqDiff,if_true,if_false];exact⟨λ x e=>by injection e with e;exact e.symm,λ e=>⟨rfl,(hG.e8 e).2⟩,hG.e21,hG.e18,hG.z7,hG.z17,hG.items,hG.head,hG.mvi,hG.mvh,hG.blk,hG.far,hG.os,hG.tape,hG.output,hG.size⟩
  ·intro ρ w9a σ hc hG hr he hno;have r0:ρ (.tmp 17)=aw gY:=(show ρ (.tmp 17)=f 17 from hr.1).trans es1;refine⟨rfl,?_⟩;unfold qB at hG;rw[if_neg WC];have hb:aB w9a gY 46 (bF y).toArray:=(hG.far gY XZ.lt hY1 hY2 hY3).trans XZ;open zdm in exact Zbw
  ·intro ρ w9a σ hc hG hr he hno;have r0:ρ (.tmp 171)=.agg (bF y).toArray:=hr.1;refine⟨rfl,?_⟩;unfold qB at hG;rw[if_pos WC];have pR:=hno WC;refine aq (v:=aI w9a.heap.size 1 1) (w':=w9a.alloc (.cells (bF y).toArray 46)) (by simp[go_sem,r0,bF]) ?_;show qB _ _ _ _ _ _ _ _ _ _ _ _;unfold qB;simp only[jJ,Nat.reduceEqDiff,if_true,if_false];have hA:=hG.later (ah w9a (.cells (bF y).toArray 46));exact⟨hA.e5,λ e=>⟨(hA.e8 e).1,rfl⟩,hA.e21,hA.e18,λ _ x e=>by injection e with e;exact⟨w9a.heap.size,e.symm,aB.new w9a _ _⟩,hA.z17,hA.items,hA.head,hA.mvi,hA.mvh,hA.blk,hA.far,hA.os,hA.tape,hA.output,hA.size⟩
  ·intro ρ w9a σ hc hG hr he hno;have r0:σ 5=some (ρ (.tmp 170)):=hr.1;have r1:σ 7=some (ρ (.tmp 172)):=hr.2.1;refine⟨rfl,?_⟩;unfold qB at hG;rw[if_pos WC];have pR:=hno WC;have h5s:=he 5 (cL.1 T8) WC;have h7s:=he 7 (cL.1 T8) WC;rw[pR] at hG
   have aej:(σ 21).isSome=false:=by
    cases h:(σ 21).isSome with
    | false=>rfl
    | true=>have:=hG.e21 h;cases this
   rw[aej] at hG;obtain⟨Kx,hz1,hz2⟩:=hG.z7 rfl _ r1;have q0:=hG.e5 _ r0;have ajr:aH bF 46 7 w9a B ri yi:=by simpa using hG.items
   obtain⟨v',w',hrun,ho,yF,Ew⟩:=eM (P:=Tryz.prog) (w:=w9a) 23 23 _ 88 Tryz.underlying23 fL rfl Tq (λ _=>rfl) (y:=y) TaB ajr Kx hz2 Tq Tq (Nat.le_trans hB hG.size);refine aq (v:=v') (w':=w') (by simp only[execOp,resolve,invoke,builtin,Sem.run_bind,Sem.run_pure,Result.andThen_ok,map_toArray,map_cons,map_nil,q0,hz1,hrun]) ?_;show qB _ _ _ _ _ _ _ _ _ _ _ _;unfold qB;simp only[jJ,Nat.reduceEqDiff,if_true,if_false,aej];exact hG.avU h5s h7s ho yF.grown Ew
  ·intro ρ w9a σ hc hG hr he hno;have r0:ρ (.tmp 174)=aw gp:=hr.1;exact Za3
  ·intro ρ w9a σ hc hG hr he hno;have r0:ρ (.tmp 175)=aw gp:=hr.1;refine⟨rfl,?_⟩;unfold qB at hG;rw[if_neg WC];show(execOp ρ _).run Tryz.prog w9a=.ok (.value (ba gp 12)) w9a;simp[go_sem,r0]
  ·intro ρ w9a σ hc hG hr he hno;have r0:ρ (.tmp 176)=ba gp 12:=hr.1;refine⟨rfl,?_⟩;unfold qB at hG;rw[if_neg WC];have c12:=hG.c12 hch;show(execOp ρ _).run Tryz.prog w9a=.ok (.value (rh)) w9a;simp[go_sem,r0,c12]
  ·intro ρ w9a σ hc hG hr he hno;have r0:ρ (.tmp 16)=aw g16:=(show ρ (.tmp 16)=f 16 from hr.1).trans es2;refine⟨rfl,?_⟩;unfold qB at hG;rw[if_neg WC];show(execOp ρ _).run Tryz.prog w9a=.ok (.value (ba g16 7)) w9a;simp[go_sem,r0]
  ·intro ρ w9a σ hc hG hr he hno;have r0:ρ (.tmp 178)=ba g16 7:=hr.1;refine⟨rfl,?_⟩;unfold qB at hG;rw[if_neg WC];have cn:=(bH (hG.far g16 hN0 hN1 hN2 hN3) 7).trans hn;show(execOp ρ _).run Tryz.prog w9a=.ok (.value (.string nm)) w9a;simp[go_sem,r0,cn]
  ·intro ρ w9a σ hc hG hr he hno;have r0:ρ (.tmp 18)=ag ty:=(show ρ (.tmp 18)=f 18 from hr.1).trans es3;refine⟨rfl,?_⟩;unfold qB at hG;rw[if_neg WC];show(execOp ρ _).run Tryz.prog w9a=.ok (.value (ag ty)) w9a;simp[go_sem,r0]
  ·intro ρ w9a σ hc hG hr he hno;have r0:ρ (.tmp 179)=.string nm:=hr.1;have r1:ρ (.tmp 180)=ag ty:=hr.2.1;refine⟨rfl,?_⟩;unfold qB at hG;rw[if_neg WC];show(execOp ρ _).run Tryz.prog w9a=.ok (.value (.agg (aS ⟨nm,ty⟩).toArray)) w9a;simp[go_sem,r0,r1,aS]
  ·intro ρ w9a σ hc hG hr he hno;have r0:ρ (.tmp 181)=.agg (aS ⟨nm,ty⟩).toArray:=hr.1;refine⟨rfl,?_⟩;unfold qB at hG;rw[if_pos WC];have pR:=hno WC;refine aq (v:=aI w9a.heap.size 1 1) (w':=w9a.alloc (.cells (aS ⟨nm,ty⟩).toArray 113)) (by simp[go_sem,r0,aS]) ?_;show qB _ _ _ _ _ _ _ _ _ _ _ _;unfold qB;simp only[jJ,Nat.reduceEqDiff,if_true,if_false];have hA:=hG.later (ah w9a (.cells (aS ⟨nm,ty⟩).toArray 113));exact⟨hA.e5,hA.e8,hA.e21,λ _=>rfl,hA.z7,λ _ x e=>by injection e with e;exact⟨w9a.heap.size,e.symm,aB.new w9a _ _⟩,hA.items,hA.head,hA.mvi,hA.mvh,hA.blk,hA.far,hA.os,hA.tape,hA.output,hA.size⟩
  ·intro ρ w9a σ hc hG hr he hno;have r0:ρ (.tmp 177)=rh:=hr.1;have r1:σ 17=some (ρ (.tmp 182)):=hr.2.1;refine⟨rfl,?_⟩;unfold qB at hG;rw[if_pos WC];have pR:=hno WC;have h8s:=he 8 (cL.1 T8) WC;have avX:=he 17 (cL.1 T8) WC;rw[pR] at hG;obtain⟨Kx,hz1,hz2⟩:=hG.z17 rfl _ r1;have ajr:aH aS 113 2 w9a B rh hd:=by simpa using hG.head
   obtain⟨v',w',hrun,ho,yF,Ew⟩:=eM (P:=Tryz.prog) (w:=w9a) 28 28 _ 24 Tryz.underlying28 rD rfl Tq (λ _=>rfl) (y:=⟨nm,ty⟩) TaX ajr Kx hz2 Tq Tq (Nat.le_trans hB hG.size);refine aq (v:=v') (w':=w') (by simp only[execOp,resolve,invoke,builtin,Sem.run_bind,Sem.run_pure,Result.andThen_ok,map_toArray,map_cons,map_nil,r0,hz1,hrun]) ?_;show qB _ _ _ _ _ _ _ _ _ _ _ _;unfold qB;simp only[jJ,Nat.reduceEqDiff,if_true,if_false];exact hG.apS h8s avX ho yF.grown Ew
  ·intro ρ w9a σ hc hG hr he hno;have r0:ρ (.tmp 165)=aw gp:=hr.1;exact Za3
  ·intro ρ w9a σ hc hG hr he hno;have r0:ρ (.tmp 184)=aw gp:=hr.1;exact ZeK
  ·intro ρ w9a σ hc hG hr he hno;have r0:ρ (.tmp 185)=ba gp 13:=hr.1;have r1:σ 8=some (ρ (.tmp 173)):=hr.2.1;refine⟨rfl,?_⟩;unfold qB at hG;rw[if_pos WC];have pR:=hno WC;have h8s:=he 8 (cL.1 T8) WC;obtain⟨a,ha⟩:=Option.isSome_iff_exists.1 h8s;rw[pR] at hG;rw[ha] at r1;injection r1 with r1;have jV:aB w9a gp 81 cs:=hG.blk;have hit:=hG.items;rw[ha] at hit;obtain⟨q,c,e1,_,_⟩:=hit.block Vb;have e1:a=aI q _ c:=e1;have q1:=r1.symm.trans e1;have c13:=(jV.cell 13).trans hci;have f13:=jV.frozen 13;have hp:=JK.apT hG h8s;rw[ha,e1] at hp;refine Rl (w':=w9a.setCell ⟨gp,13,none⟩ (aI q (yi++if (some a).isSome=true then [y] else []).length c)) (by simp[go_sem,r0,q1,c13,f13]) ?_;show qB _ _ _ _ _ _ _ _ _ _ _ _;unfold qB;simp only[jJ,Nat.reduceEqDiff,if_true,if_false,Option.isSome_some];rw[ha,e1];exact hp
 ·intro σ w9a hM hG;simp only[Uab];obtain⟨a,ha⟩:=Option.isSome_iff_exists.1 (hM 8 WC);obtain⟨b,hb⟩:=Option.isSome_iff_exists.1 (hM 18 WC);have h21:=hM 21 WC;unfold qB at hG;obtain⟨x5,h5⟩:=Option.isSome_iff_exists.1 (hM 5 WC);have h5e:=hG.e5 _ h5;rw[ha,hb,h21,h5,h5e] at hG;intro a0 q0 a1 q1 a2 q2 a3 q3 a4 q4 a5 q5 a6 q6 a7 q7 a8 q8 a9 q9 FM UM J3 q11 a12 q12 a13 q13 a14 q14 a15 q15 a16 q16 a17 q17 a18 q18 a19 q19 a20 q20;have e1:a1=aw gp:=q1;have e18:σ 18=some a18:=q18;rw[hb] at e18;injection e18 with e18;clear q0 q1 q2 q3 q4 q5 q6 q7 q8 q9 UM q11 q12 q13 q14 q15 q16 q17 q18 q19 q20;subst e1 e18;have U2:=hG.head;obtain⟨qq,cc,hqq,_,_⟩:=U2.block Vb;have hqq:b=aI qq _ cc:=hqq;have c12:=hG.c12 hch;have f12:=hG.blk.frozen 12;simp only[bS,bD,Act.put,Uac];simp only[bS,Uac] at mg;have HF:=aa mg;have HG:=aa hG;clear mg hG U2;obtain⟨n9,hn9⟩:∃n9,n9=(hd++if (some b).isSome=true then [(⟨nm,ty⟩:aX)] else []).length:=⟨_,rfl⟩;rw[<- hn9] at hqq;clear hn9;subst hqq;go_wp2_with fail;refine HF.ae _ _ _ _ _ _ _ _ _ _ _ _ _ _ _ _ _ _ _ _ _ _ _ _ _ _ _ _ HG.ae
end
section
variable {c:PC} {w0 w w1:World} {gp g2 g4 g5 D:Nat} {qc:Array Value} {r:Rest} {u v:Value} {ya:List Ex} {s:dz} {hd:List aX} {yi yh yo:List Ex} {ti th eD:List Tr}
theorem cP.Rm (h:cP c w0 gp g2 qc g4 g5 D r w u v ya s hd yi yh yo ti th eD) {t:Tr} {y:Ex} {a b:Value} {ES:aX} {s7 ET:Option Value}(hl:JK gp w0.heap.size w (c.cells r u v) r.i r.h yi y hd ES (some r.i) s7 (some a) ET (some b) true w1)(ht:t.at_ w (sU w gp (PR u v r)) y):
  cP c w0 gp g2 qc g4 g5 D { r with h:=b,i:=a } (w1.setCell ⟨gp,12,none⟩ b) u v ya s (hd++ [ES]) (yi++ [y]) yh yo (ti++ [t]) th eD:=by
 have jV:aB w1 gp 81 ((c.cells r u v).setIfInBounds 13 a):=hl.blk;have hi:aH bF 46 7 w1 w0.heap.size a (yi++ [y]):=hl.items;have hh:aH aS 113 2 w1 w0.heap.size b (hd++ [ES]):=hl.head;have hf:=λ k (hk:k≠gp)=>Below.heap_setCell w1 ⟨gp,12,none⟩ b k hk
 have Gr:aH bF 46 7 (w1.setCell ⟨gp,12,none⟩ b) w0.heap.size a (yi++ [y]):=hi.keep λ g hg2=>hf g λ e=>hi.other jV WC Taf
 have hh2:aH aS 113 2 (w1.setCell ⟨gp,12,none⟩ b) w0.heap.size b (hd++ [ES]):=hh.keep λ g hg2=>hf g λ e=>hh.other jV WC Taf
 have hb2:aB (w1.setCell ⟨gp,12,none⟩ b) gp 81 (c.cells { r with h:=b,i:=a } u v):=jV.aT 12 b;have hab:∀q,a.ownBlock=some q->b.ownBlock≠some q:=λ q h1 h2=>by obtain⟨_,_,_,e1⟩:=hi.lt h1;obtain⟨_,_,_,e2⟩:=hh.lt h2;rw[e1] at e2;injection e2 with e2;injection e2 with _ e2 _;exact absurd e2 WC
 have p:Dd w0 gp (PR u v r) (PR u v { r with h:=b,i:=a }) (λ i=>i=2\/i=3) w (w1.setCell ⟨gp,12,none⟩ b):=by
  refine⟨hl.os,hl.tape,hl.output,by rw[World.size_setCell];exact hl.size,λ k h1 h2 h3=>(hf k h2).trans (hl.far k h1 h2 (h3 3 Tq (.inr rfl)) (h3 2 Tq (.inl rfl))),?_,?_,?_,?_⟩
  ·intro i hi hT
   match i with
   | 0 | 1 | 4 | 5=>rfl
   | 2=>exact absurd (.inl rfl) hT
   | 3=>exact absurd (.inr rfl) hT
   | n+6=>omega
  ·intro i hi hT;rcases hT with rfl | rfl
   ·exact hl.mvh
   ·exact hl.mvi
  ·intro i hi j hj hT hU nP q h1 h2;rcases hT with rfl | rfl <;> rcases hU with rfl | rfl
   ·exact nP rfl
   ·exact hab q h2 h1
   ·exact hab q h1 h2
   ·exact nP rfl
  ·intro i hi hT q hq;rcases hT with rfl | rfl
   ·have hq:b.ownBlock=some q:=hq;exact⟨(hh2.lt hq).2.1,(hh2.lt hq).1,λ e=>hh2.other hb2 WC (by rw[hq,e])⟩
   ·have hq:a.ownBlock=some q:=hq;exact⟨(Gr.lt hq).2.1,(Gr.lt hq).1,λ e=>Gr.other hb2 WC (by rw[hq,e])⟩
 have hT:=p.trees (ts:=[t]) (ys:=[y]) (Tr.fO ht);exact⟨h.f.step p,hb2,p.own h.f (i:=0) Tq Tq h.o0,p.own h.f (i:=1) Tq Tq h.o1,hh2,Gr,p.own h.f (i:=4) Tq Tq h.o4,p.own h.f (i:=5) Tq Tq h.o5,h.aF,Tr.all_append (p.trees h.t3) hT,p.trees h.t4,p.trees h.t5⟩
theorem cP.apU {w':World} {u' v':Value} {pZ:List Ex} {s':dz}(h:cP c w0 gp g2 qc g4 g5 D r w u v ya s hd yi yh yo ti th eD)(hs:gM gp w u v w' u' v')(hp:eH c w0 gp r w' u' v' pZ s') {t:Tr} {y:Ex}(ht:t.at_ w' (λ b=>(b < w0.heap.size\/w.heap.size<=b)/\Kp w' gp [u',v'] b) y):t.at_ w' (λ b=>sU w' gp (PR u' v' r) b/\(b < w0.heap.size\/w.heap.size<=b)/\Kp w' gp [u',v'] b) y:=by have p:=(h.call hs hp).f;refine Tr.at_.keep (λ b hb=>⟨λ _=>rfl,⟨hb.2.1,hb.2.2.1,λ i hi e=>?_⟩,hb⟩) t y ht;exact Zcb
theorem Dd.Rn {R R':Nat->Value} {T:Nat->Prop} {w':World} {q:Nat}(p:Dd w0 gp R R' T w w') {ts:List Tr} {ys:List Ex}(h:Tr.aO w (λ b=>sU w gp R b/\b≠q) ts ys):Tr.aO w' (λ b=>sU w' gp R' b/\b≠q) ts ys:=Tr.aO.keep (λ b hb=>⟨λ o=>bH (p.keep hb.1) o,p.kp hb.1,hb.2⟩) ts ys h
theorem cP.aside (h:cP c w0 gp g2 qc g4 g5 D r w u v ya s hd yi [] [] ti [] []) {q:Nat}(hg:w.grownBy w1 (some q))(hl:w0.heap.size<=q)(hk:sU w gp (PR u v r) q)(hn:q≠g2/\q≠g4/\q≠g5/\q≠D)(ht:Tr.aO w (λ b=>sU w gp (PR u v r) b/\b≠q) ti yi):cP c w0 gp g2 qc g4 g5 D r w1 u v ya s hd yi [] [] ti [] []:=by
 have hb:=λ b (h1:b < w.heap.size) (h2:b≠q)=>hg.block b h1 (λ e=>by injection e with e;exact h2 e)
 have hkp:∀b,sU w gp (PR u v r) b->sU w1 gp (PR u v r) b:=λ b k=>⟨Nat.lt_of_lt_of_le k.1 hg.size,k.2⟩
 have hf:=h.f;have ho:∀ {α:Type} {f:α->List Value} {e:TypeId} {size base:Nat} {l:List α} {x:Value},aH f e size w base x l->x.ownBlock≠some q->aH f e size w1 base x l:=λ o hx=>o.grown hg hx
 refine⟨⟨hf.low,Nat.lt_of_lt_of_le hf.lt hg.size,Below.trans hf.base (yl hg hf.base.size hl),λ i hi b hb=>⟨(hf.rows i hi b hb).1,Nat.lt_of_lt_of_le (hf.rows i hi b hb).2.1 hg.size,(hf.rows i hi b hb).2.2⟩,hf.ap,hkp _ hf.k2,hkp _ hf.k4,hkp _ hf.k5,hkp _ hf.kD,hf.new,(hb D hf.kD.1 (Ne.symm hn.2.2.2)).trans hf.dd,(hb g2 hf.k2.1 (Ne.symm hn.1)).trans hf.z2,(hb g4 hf.k4.1 (Ne.symm hn.2.1)).trans hf.z4,(hb g5 hf.k5.1 (Ne.symm hn.2.2.1)).trans hf.z5⟩,(hb gp hf.lt (Ne.symm hk.2.1)).trans h.blk,ho h.o0 (hk.2.2 0 Tq),ho h.o1 (hk.2.2 1 Tq),ho h.o2 (hk.2.2 2 Tq),ho h.o3 (hk.2.2 3 Tq),ho h.o4 (hk.2.2 4 Tq),ho h.o5 (hk.2.2 5 Tq),h.aF,Tr.aO.keep (λ b k=>⟨λ o=>bH (hb b k.1.1 k.2) o,hkp b k.1⟩) _ _ ht,?_,?_⟩
 ·unfold Tr.aO;rfl
 ·unfold Tr.aO;rfl
end
def Ha (g:Bool)(aL:List Tr)(cols:List aX)(q:Qy)(s:dz):Except Int (List Tr×List Tr×dz):=
 match dA g aL cols q.ft s with
 | .error e=> .error e
 | .ok (hs,s2)=>match ep g aL cols q.ord s2 with
   | .error e=> .error e
   | .ok (os,s3)=> .ok (hs,os,s3)
def wU (g:Bool)(aL:List Tr)(cols:List aX)(q:Qy)(s:dz):Except Int (List Tr×List aX×List Tr×List Tr×dz):=
 match dp g aL cols q.items s with
 | .error e=> .error e
 | .ok (is,hd,s1)=>match Ha g aL cols q s1 with
   | .error e=> .error e
   | .ok (hs,os,s3)=> .ok (is,hd,hs,os,s3)
def zr (l:List Tr)(m:List aX):Except Int (List Tr×List aX×dz)->Except Int (List Tr×List aX×dz)
 | .error e=> .error e
 | .ok (ys,hd,s)=> .ok (l++ys,m++hd,s)
theorem WQ (x:Except Int (List Tr×List aX×dz)):zr [] [] x=x:=by exact Zg3
theorem Ro(l:List Tr)(m:List aX)(y:Tr)(cl:aX) {x x':Except Int (List Tr×List aX×dz)}(h:x'=(match x with | .error e=> .error e | .ok (ys,hd,s)=> .ok (y::ys,cl::hd,s))):zr l m x'=zr (l++ [y]) (m++ [cl]) x:=by
 rw[h]
 cases x with
 | error e=>rfl
 | ok p=>obtain⟨ys,hd,s⟩:=p;show Except.ok (l++y::ys,m++cl::hd,s)=Except.ok ((l++ [y])++ys,(m++ [cl])++hd,s);rw[append_assoc,append_assoc];rfl
theorem U3{t:Tr} {x:Ex}(h:t.at_ w S x):x.op=t.op/\x.name=t.name:=by
 cases t with
 | mk op v name width args=>unfold Tr.at_ at h;exact⟨h.1,h.2.2.1⟩
variable{b:ByteArray}
theorem Nj(h:b.toList=[]):b.size=0:=by
 unfold ByteArray.toList ByteArray.toList.loop at h;split at h
 ·exfalso
  have:∀i r,(ByteArray.toList.loop b i r).length≥r.length:=by
   intro i r
   fun_induction ByteArray.toList.loop b i r with
   | case1 i r hi ih=>simp at ih;omega
   | case2=>simp
  have h2:=this 1 [b.get! 0];rw[h] at h2;simp at h2
 ·omega
theorem U4:(⟨#[]⟩:ByteArray).toList=[]:=by unfold ByteArray.toList ByteArray.toList.loop;rfl
theorem apW(h:b.size=0):b=⟨#[]⟩:=by
 cases b with
 | mk d=>have h:d.size=0:=h;rw[Array.eq_empty_of_size_eq_zero h]
theorem zbR.Kal(h:p:=by go_wp2_with fail;exact HE.ae er _ _ (by unfold wU;rw[<- HB.ae,oz.ae]) nJ.ae ⟨rfl,rfl,rfl⟩ HW.ae):p:=h
theorem zfc.Kbc(h:p:=by go_upto_region 31 with fail;generalize w6.alloc (.cells (ay Kx) 46)=WD at*;obtain⟨_,_,_,uQ,_,_,b4,b5,_⟩:=HW.ae;open zbR in exact ZaF):p:=h
theorem zff.Kbd(h:p:=by
 have HO:=aa VX;clear VX;have tE:aB WD g16 48 #[ag x.op,ag x.v.k,af x.v.n,.string x.v.s,.string x.name,af x.width,.slice x.A x.n x.c,.string nm]:=Cu.ae;have z0:=tE.cell 0;have x4:=tE.cell 4;have x7:=tE.cell 7;have fx:=tE.frozen;simp only[Uaa] at z0 x4 x7;clear tE;go_wp2_with fail
 ·rename_i iZ hop;have aqa:nm.size=0:=Nj iZ;have xO:=aa (show X=zr (ti++ [t2]) (jY++ [⟨x.name,ty⟩]) (dp c.aK c.aL c.cols (q.items.drop (k+1)) s2) by
   rw[ER.ae]
   have h2:t.op=2:=by rw[<-(U3 xf.ae).1];exact of_decide_eq_true hop
   rw[show gZ t nm=x.name by unfold gZ;rw[if_pos ⟨aqa,h2⟩,(U3 xf.ae).2]])
  clear ER iZ hop aqa;have hg:=aC (aR (Below.refl WD.heap.size WD):WD.grownBy WD (some g16)) 7 (.string x.name);have HK:=aa (sO.ae.aside hg ajs.ae.1 MI.ae ajs.ae.2 HT7.ae);have jV:∀b,b < WD.heap.size->b≠g16->(WD.setCell ⟨g16,7,none⟩ (.string x.name)).heap[b]?=WD.heap[b]?:=λ b h1 h2=>hg.block b h1 (λ e=>by injection e with e;exact h2 e)
  have xN:=aa (show Tr.aO (WD.setCell ⟨g16,7,none⟩ (.string x.name)) (sU (WD.setCell ⟨g16,7,none⟩ (.string x.name)) gp (PR u' v' { r with h:=rh,i:=ri })) [t2] [Kx] from Tr.aO.keep (λ b KK=>⟨λ o=>bH (jV b KK.1.1 KK.2) o,Nat.lt_of_lt_of_le KK.1.1 hg.size,KK.1.2⟩) _ _ ael.ae);have HYB:=aa (show aB (WD.setCell ⟨g16,7,none⟩ (.string x.name)) gY 46 (bF Kx).toArray from(jV gY TJ.ae.1 (Ne.symm XR.ae)).trans Oa.ae);have tL:=aa (show sU (WD.setCell ⟨g16,7,none⟩ (.string x.name)) gp (PR u' v' { r with h:=rh,i:=ri }) g16 from⟨Nat.lt_of_lt_of_le MI.ae.1 hg.size,MI.ae.2⟩);have WT:=aa (show sU (WD.setCell ⟨g16,7,none⟩ (.string x.name)) gp (PR u' v' { r with h:=rh,i:=ri }) gY from⟨Nat.lt_of_lt_of_le TJ.ae.1 hg.size,TJ.ae.2⟩);have pS:=aa (show(WD.setCell ⟨g16,7,none⟩ (.string x.name)).cell? ⟨g16,7,none⟩=some (.string x.name) by
   have tE:aB WD g16 48 #[ag x.op,ag x.v.k,af x.v.n,.string x.v.s,.string x.name,af x.width,.slice x.A x.n x.c,.string nm]:=Cu.ae
   rw[(tE.aT 7 (.string x.name)).cell]
   rfl)
  clear sO GZ Oa HT7 ael fx z0 x4 x7 Cu MI TJ jV hg;generalize World.setCell WD _ _=WB at*;have HOi:=aa HK.ae.o3;have HOh:=aa HK.ae.o2;have HLi:=aa (show yi.length<=1000000 by have:=HFN.ae;have:=qA.ae;have:=Wc.ae;have:=HO.ae;omega);have HLh:=aa (show(hd++jY).length<=1000000 by have:=Q3.ae;have:=HFN.ae;have:=qA.ae;have:=Wc.ae;rw[length_append];omega);have key:=λ(T:Array Value) (hT:T.size=252) e0 e1 e2 e3 (Q2:Exit->Act->World->Prop) hf=>DG (T:=T) (d:=d) (Q:=Q2) (gp:=gp) (B:=w0.heap.size) (gY:=gY) (g16:=g16) (W:=WB) (cs:=c.cells { r with h:=rh,i:=ri } u' v') (ri:=ri) (rh:=rh) (yi:=yi) (y:=Kx) (hd:=hd++jY) (nm:=x.name) (ty:=ty) hT e0 e1 e2 e3 rfl rfl HK.ae.f.base.size HK.ae.blk HOi.ae HOh.ae HLi.ae HLh.ae HYB.ae WT.ae.2.1 (WT.ae.2.2 3 Tq) (WT.ae.2.2 2 Tq) pS.ae tL.ae.1 tL.ae.2.1 (tL.ae.2.2 3 Tq) (tL.ae.2.2 2 Tq) hf
  simp only[DF,bK,fA,Tryz.f28,Option.getD_some,rR,Nat.reduceEqDiff,if_true,if_false] at key;refine key _ ?_ ?_ ?_ ?_ ?_ _ ?_
  ·rfl
  ·rfl
  ·rfl
  ·rfl
  ·rfl
  clear key;intro adT adU z167 z168 adV adW z171 adX z173 adY z175 adZ aea aeb aec aed aee z182 z183 aef aeg aeh aei w8 a b9 s7 ET Ei;simp only[Uac];have T9:=aa (HK.ae.Rm Ei (my xN.ae));clear Ei HK HYB pS xN HOi HOh;generalize World.setCell w8 _ _=NT at*;have hk7:k < 1000000:=by have:=HFN.ae;have:=Wc.ae;omega
  go_wp2_with fail;go_roundw;case rel=>exact⟨k+1,b9,a,u',v',K7,yi++ [Kx],s2,ti++ [t2],jY++ [⟨x.name,ty⟩],hlt,by go_num,by
   have h:=T9.ae
   rw[append_assoc] at h
   exact h,xO.ae,by have:=AJ.ae;have:=HND.ae;have:=DB.ae;omega,by rw[length_append,qA.ae.1];rfl,by rw[length_append,qA.ae.2];rfl⟩
  case measure=>exact Za2
 ·rename_i iZ hop;have xO:=aa (show X=zr (ti++ [t2]) (jY++ [⟨nm,ty⟩]) (dp c.aK c.aL c.cols (q.items.drop (k+1)) s2) by
   rw[ER.ae]
   have h2:¬t.op=2:=by rw[<-(U3 xf.ae).1];exact of_decide_eq_false hop
   rw[show gZ t nm=nm by unfold gZ;rw[if_neg (λ h=>h2 h.2)]])
  clear ER iZ hop;exact Zan
 ·rename_i iZ;have xO:=aa (show X=zr (ti++ [t2]) (jY++ [⟨nm,ty⟩]) (dp c.aK c.aL c.cols (q.items.drop (k+1)) s2) by
   rw[ER.ae]
   rw[show gZ t nm=nm by unfold gZ;rw[if_neg (λ h=>iZ (by rw[apW h.1];exact U4))]])
  clear ER iZ;exact Zan):p:=h
theorem zdN.KaJ(h:p:=by
 go_wp2_with fail;clear z0 z1 x2 x3 x4 x5 x6;refine(Da c w0 gp { r with h:=rh,i:=ri } t x s1 u1 v1 Jy W2 IH.ae kE.ae xf.ae tU.ae.ps TaL).mono ?_;intro e w6 hp;have ve:=aa (lM c.aK c.aL c.cols t s1)
 cases hr:oZ c.aK c.aL c.cols t s1 with
 | error er=>
   open zfc in exact Zda
 | ok p=>
   obtain⟨t2,ty,s2⟩:=p;have ajt:=uW.ae;rw[hr] at hp ve ajt;obtain⟨Kx,u',v',K7,rfl,uG,pJ,hst⟩:=hp;have rQ:=tU.ae.call hst pJ;have WO:=tU.ae.tree hst pJ uG;have oa:=tU.ae.stp hst pJ;have apZ:t2.at_ w6 (λ b=>sU w6 gp (PR u' v' { r with h:=rh,i:=ri }) b/\(b < w0.heap.size\/W2.heap.size<=b)/\Kp w6 gp [u',v'] b) Kx:=cP.apU tU.ae hst pJ uG;have bg:=ah w6 (.cells (ay Kx) 46);have XZ:=aB.new w6 46 (ay Kx);have sO:=aa (rQ.later bg);have hpl:=Dd.later (w0:=w0) (gp:=gp) (R:=PR u' v' { r with h:=rh,i:=ri }) bg;have GZ:=aa (hpl.trees (Tr.fO WO));have HT7:=aa (hpl.Rn (oa.Rn apX.ae));have ael:=aa (show Tr.aO (w6.alloc (.cells (ay Kx) 46)) (λ b=>sU (w6.alloc (.cells (ay Kx) 46)) gp (PR u' v' { r with h:=rh,i:=ri }) b/\b≠g16) [t2] [Kx] from hpl.Rn (Tr.fO (Tr.at_.keep (λ b KK=>⟨λ _=>rfl,KK.1,λ e=>by
    rcases KK.2.1 with h | h
    ·have:=ajs.ae.1;omega
    ·have:=WS.ae.1;omega⟩) t2 Kx (apZ))))
   have MI:=aa (hpl.kp (oa.kp WS.ae));have Cu:=aa ((hpl.keep (oa.kp WS.ae)).trans ((oa.keep WS.ae).trans AB.ae));have TJ:=aa (show sU (w6.alloc (.cells (ay Kx) 46)) gp (PR u' v' { r with h:=rh,i:=ri }) w6.heap.size from⟨XZ.lt,by have:=rQ.f.lt;omega,λ i hi e=>by have:=(rQ.f.rows i hi _ e).2.1;omega⟩);have XR:=aa (show g16≠w6.heap.size from λ e=>by have:=(oa.kp WS.ae).1;omega);have DB:=aa (ve.ae.len _ _ _ rfl);have ER:=aa (show X=zr (ti++ [t2]) (jY++ [⟨gZ t nm,ty⟩]) (dp c.aK c.aL c.cols (q.items.drop (k+1)) s2) by
    rw[uH.ae,ajt]
    exact Ro ti jY t2 ⟨gZ t nm,ty⟩ rfl)
   have VX:=rQ.t3.length;clear hr ajt hst pJ uG apZ rQ WO bg ve uW uH tU oa hpl WS AB apX;go_upto_region 31 with fail;open zff in exact Zdb):p:=h
theorem zcU.Kaw(h:p:=by
 have jN:=aa Gz;have HQN:=aa NW;have aiD:=aa kH;have HB:=aa hX;have Wc:=aa ft;have HP:=aa hP;have b2:=hP.f.z2;unfold fp at b2;have z6:=b2.cell 0;simp only[Uaa] at z6;rw[hn,<- ft] at z6;clear hE hF ih q1 q2 q3 q4 q5 Az TG D9 hz ND Gz NW kH hX hP b2 hn ft;simp only[bK,fA,Tryz.f28,Option.getD_some];go_wp2_with fail;clear z6;go_loopw [137] (λ i wr=>∃(k:Nat) (rh ri u1 v1:Value) (Jy yi:List Ex) (s1:dz) (ti:List Tr) (jY:List aX),k<=zs.length/\i=af k/\cP c w0 gp g2 (fp q L) g4 g5 D { r with h:=rh,i:=ri } wr u1 v1 Jy s1 (hd++jY) yi [] [] ti [] []/\X=zr ti jY (dp c.aK c.aL c.cols (q.items.drop k) s1)/\s1.aL.length+s1.aF.length+2*Tr.aQ ((q.items.map (·.1)).drop k)+(2*Tr.aQ q.ft+2*Tr.aQ (q.ord.map (·.1)))<=1000000/\ti.length=k/\jY.length=k) (λ i _=>zs.length - (intOf i).toNat);case atStart=>exact⟨0,r.h,r.i,u,v,ya,[],s,[],[],Nat.zero_le _,rfl,by rw[append_nil];exact HP.ae,by rw[drop_zero,WQ];exact HB.ae,by rw[drop_zero];exact aiD.ae,rfl,rfl⟩
 case round=>
  rename_i K hK;clear HP;obtain⟨k,rh,ri,u1,v1,Jy,yi,s1,ti,jY,hk,rfl,hP,TI,kH,Tv,hhl⟩:=hrel;have uH:=aa TI;have AJ:=aa kH;have HP:=aa hP;have qA:=aa (And.intro Tv hhl);clear TI kH hP Tv hhl;by_cases hlt:k < zs.length
  ·have fI:k < q.items.length:=by rw[<- Wc.ae];exact hlt
   obtain⟨b,off,hA,Cr,hcell⟩:∃b off,L.i.A=some ⟨b,off,none⟩/\b < w0.heap.size/\ck w0 b (off+k*8) zs[k].1/\w0.cell? ⟨b,off+k*8+7,none⟩=some zs[k].2:=by
    rcases HJ.ae with h |⟨b,off,h1,h2,h3⟩
    ·exact ZfW
    ·exact Zem
   have hb8:zs[k].2=.string (q.items[k]'fI).2:=by have h1:=congrArg (λ l=>l[k]?) GX.ae;simp only[getElem?_map,getElem?_eq_getElem hlt,getElem?_eq_getElem fI,Option.map_some] at h1;injection h1
   have rI:(q.items[k]'fI).1.at_ w0 (Old w0) zs[k].1:=by
    have hl2:k <((q.items.map λ x=>(x.1,Value.string x.2)).map (·.1)).length:=by simpa using fI
    obtain⟨Kx,h1,h2⟩:=pI hl2 jN.ae;exact Zfb
   have fW:(q.items[k]'fI).1.ok:=dN.1 Q1.ae _ (mem_map_of_mem (getElem_mem fI));have hnd:Tr.aQ ((q.items.map (·.1)).drop k)=(q.items[k]'fI).1.nodes+Tr.aQ ((q.items.map (·.1)).drop (k+1)):=by have h1:=uP (ts:=q.items.map (·.1)) (k:=k) (by simpa using fI);simpa using h1
   have hdr:dp c.aK c.aL c.cols (q.items.drop k) s1=(match oZ c.aK c.aL c.cols (q.items[k]'fI).1 s1 with
     | .error e=> .error e
     | .ok (Kx,k2,s')=>match dp c.aK c.aL c.cols (q.items.drop (k+1)) s' with
       | .error e=> .error e
       | .ok (ys,hd,Lt)=> .ok (Kx::ys,⟨gZ (q.items[k]'fI).1 (q.items[k]'fI).2,k2⟩::hd,Lt)):=by
    rw[drop_eq_getElem_cons fI];obtain⟨t,bb⟩:=q.items[k];rfl
   rw[hb8] at hcell;generalize zs[k].1=x at*;generalize (q.items[k]'fI).2=nm at*;generalize (q.items[k]'fI).1=t at*;obtain⟨hex,h7⟩:=hcell;have iE:=hex.keep (λ o=>HP.ae.f.base.cell (p:=⟨b,o,none⟩) Cr);have h72:=(HP.ae.f.base.cell (p:=⟨b,off+k*8+7,none⟩) Cr).trans h7;unfold ck at iE;have xf:=aa rI;have kE:=aa fW;have HND:=aa hnd;have uW:=aa hdr;have HAA:=aa hA;rw[hA];clear hex h7 rI fW hnd hdr hA Cr hb8 fI;go_upto_region 30 with fail;clear iE h72;have hb:=aB.new wr 48 #[ag x.op,ag x.v.k,af x.v.n,.string x.v.s,.string x.name,af x.width,.slice x.A x.n x.c,.string nm];have aek:=ah wr (.cells #[ag x.op,ag x.v.k,af x.v.n,.string x.v.s,.string x.name,af x.width,.slice x.A x.n x.c,.string nm] 48);generalize wr.alloc (.cells #[ag x.op,ag x.v.k,af x.v.n,.string x.v.s,.string x.name,af x.width,.slice x.A x.n x.c,.string nm] 48)=W2 at*;have tU:=aa (HP.ae.later aek);have WS:=aa (show sU W2 gp (PR u1 v1 { r with h:=rh,i:=ri }) wr.heap.size from⟨hb.lt,by have:=HP.ae.f.lt;omega,λ i hi e=>by have:=(HP.ae.f.rows i hi _ e).2.1;omega⟩);have ajs:=aa (show w0.heap.size<=wr.heap.size/\wr.heap.size≠g2/\wr.heap.size≠g4/\wr.heap.size≠g5/\wr.heap.size≠D from⟨HP.ae.f.base.size,by have:=HP.ae.f.k2.1;omega,by have:=HP.ae.f.k4.1;omega,by have:=HP.ae.f.k5.1;omega,by have:=HP.ae.f.kD.1;omega⟩);have apX:=aa (show Tr.aO W2 (λ b=>sU W2 gp (PR u1 v1 { r with h:=rh,i:=ri }) b/\b≠wr.heap.size) ti yi from Tr.aO.keep (λ b KK=>⟨λ o=>aek.cell (p:=⟨b,o,none⟩) KK.1,⟨Nat.lt_of_lt_of_le KK.1 aek.size,KK.2⟩,by have:=KK.1;omega⟩) _ _ HP.ae.t3)
   generalize wr.heap.size=g16 at*;clear HP aek;open zdN in exact Zb0
  ·have fJ:k=zs.length:=by omega
   have U0:=aa (show X=.ok (ti,jY,s1) by
    rw[uH.ae,fJ,Wc.ae,drop_length]
    show Except.ok (ti++ [],jY++ [],s1)=_
    rw[append_nil,append_nil])
   have avY:(q.items.map (·.1)).drop k=[]:=drop_eq_nil_of_le (by have:=Wc.ae;rw[length_map];omega);subst fJ
   have key:∀T:Array Value,T.size=252->T.getD 2 undef=aw g2->T.getD 4 undef=aw g4->T.getD 5 undef=aw g5->T.getD 6 undef=aw gp->(fA bK 8).wp Tryz.prog Q { tmps:=T,defers:=d } wr:=λ T hT h2 h4 h5 h6=>
    Rk c w0 gp g2 g4 g5 D q L { r with h:=rh,i:=ri } u1 v1 Jy s1 (hd++jY) yi ti T hT h2 h4 h5 h6 d wr Q IH.ae Q4.ae Q5.ae oC.ae G6.ae Aa.ae HQN.ae (by have:=AJ.ae;rw[avY] at this;omega) HP.ae
     (λ er a W he hne ha hw=>HE.ae er a W (by
       have h:Ha c.aK c.aL c.cols q s1=.error er:=by
        unfold Ha
        rcases he with he |⟨th,s',h1,h2⟩
        ·rw[he]
        ·rw[h1]
         dsimp only
         rw[h2]
       unfold wU
       rw[<- HB.ae,U0.ae]
       dsimp only
       rw[h]) hne ha hw)
     (λ a W r' u' v' pZ s2 s' yh yo th eD h1 h2 ha hp=>HF.ae a W r' u' v' pZ s' jY yi yh yo ti th eD (by
       have h:Ha c.aK c.aL c.cols q s1=.ok (th,eD,s'):=by
        unfold Ha
        rw[h1]
        dsimp only
        rw[h2]
       unfold wU
       rw[<- HB.ae,U0.ae]
       dsimp only
       rw[h]) ha hp)
   exact Zcd):p:=h
theorem zeL.Ka1(h:p:=by
 obtain⟨hn,zs,hz,ND,Gz⟩:=Ye;rw[length_map] at hn;have ft:zs.length=q.items.length:=by have:=congrArg List.length ND;simpa using this
 obtain⟨X,hX⟩:∃X,X=dp c.aK c.aL c.cols q.items s:=⟨_,rfl⟩;have HE:=aa hE;open zcU in exact Zbd):p:=h
theorem WR (c:PC)(w0:World)(gp g2 g4 g5 D:Nat)(q:Qy)(L:QL)(r:Rest)(u v:Value)(ya:List Ex)(s:dz)(hd:List aX)(T:Array Value)(hT:T.size=252)
  (h2:T.getD 2 undef=aw g2) (h4:T.getD 4 undef=aw g4) (h5:T.getD 5 undef=aw g5) (h6:T.getD 6 undef=aw gp) (d:List Deferred) (w:World) (Q:Exit->Act->World->Prop)
  (ih:c.Ok w0) (q1:Tr.cO (q.items.map (·.1))) (Ye:eO w0 (q.items.map λ x=>(x.1,.string x.2)) L.i.A L.i.n) (q2:q.items.length<=100000) (q3:hd.length<=100000)
  (q4:Tr.cO q.ft) (q5:gJ w0 q.ft L.h.A L.h.n) (Az:q.ft.length<=1000000) (TG:Tr.cO (q.ord.map (·.1))) (D9:eO w0 (q.ord.map λ x=>(x.1,.bool x.2)) L.o.A L.o.n) (NW:q.ord.length<=1000000) (kH:s.aL.length+s.aF.length+2*Tr.aQ (q.items.map (·.1))+(2*Tr.aQ q.ft+2*Tr.aQ (q.ord.map (·.1)))<=1000000)
  (hP:cP c w0 gp g2 (fp q L) g4 g5 D r w u v ya s hd [] [] [] [] [] [])
  (hE:∀er a W,wU c.aK c.aL c.cols q s=.error er->er≠0->qj a d g4 g5->wT w0 g4 g5 D W->Q .ret a (jn W g4 g5 er))
  (hF:∀a W r' u' v' pZ s' vh yi yh yo ti th eD,wU c.aK c.aL c.cols q s=.ok (ti,vh,th,eD,s')->qj a d g4 g5->cP c w0 gp g2 (fp q L) g4 g5 D r' W u' v' pZ s' (hd++vh) yi yh yo ti th eD->Q .ret a (jx W g4 g5 gp)):
  (fA bK 7).wp Tryz.prog Q { tmps:=T,defers:=d } w:=by
 open zeL in exact ZcB
variable{α:Type}{f:α->List Value}{e:TypeId}{base:Nat}
theorem ot{size:Nat} :aH f e size w base (az) []:=⟨by simp,.inl ⟨rfl,rfl⟩⟩
section
variable {c:PC} {w0 w:World} {gp g2 g4 g5 D:Nat} {qc:Array Value} {r:Rest} {u v:Value} {ya:List Ex} {s:dz} {hd:List aX} {yi yh yo:List Ex} {ti th eD:List Tr}
theorem cP.aqe (h:cP c w0 gp g2 qc g4 g5 D r w u v ya s hd yi yh yo ti th eD):cP c w0 gp g2 qc g4 g5 D { r with h:=az } (w.setCell ⟨gp,12,none⟩ (az)) u v ya s [] yi yh yo ti th eD:=by
 have hf:=λ k (hk:k≠gp)=>Below.heap_setCell w ⟨gp,12,none⟩ (az) k hk
 have p:Dd w0 gp (PR u v r) (PR u v { r with h:=az }) (λ i=>i=2) w (w.setCell ⟨gp,12,none⟩ (az)):=by
  refine⟨rfl,rfl,rfl,by rw[World.size_setCell];exact Nat.le_refl _,λ k h1 h2 h3=>hf k h2,?_,?_,Zfo,?_⟩
  ·intro i hi hT
   match i with
   | 0 | 1 | 3 | 4 | 5=>rfl
   | 2=>exact absurd rfl hT
   | n+6=>omega
  ·intro i hi hT;subst hT;exact .inr λ q hq=>by cases hq
  ·intro i hi hT q hq;subst hT;cases hq
 exact⟨h.f.step p,h.blk.aT 12 _,p.own h.f (i:=0) Tq Tq h.o0,p.own h.f (i:=1) Tq Tq h.o1,ot,p.own h.f (i:=3) Tq Tq h.o3,p.own h.f (i:=4) Tq Tq h.o4,p.own h.f (i:=5) Tq Tq h.o5,h.aF,p.trees h.t3,p.trees h.t4,p.trees h.t5⟩
end
def zt (g:Bool)(aL:List Tr)(cols:List aX)(q:Qy)(s:dz):Except Int (List Tr×List aX×List Tr×List Tr×dz):=if q.items=[]/\g=true then .error 42 else wU g aL cols q s
theorem zbS.Kal(h:p:=by go_wp2_with fail;exact HE.ae 42 _ _ HR.ae WC ⟨rfl,rfl,rfl⟩ HW.ae):p:=h
theorem zeM.Ka1(h:p:=by
 have key:∀(r':Rest) (Tp:List aX) (w':World),(q.items=[]->c.aK=false)->Tp=(if q.items=[] then hd else [])->cP c w0 gp g2 (fp q L) g4 g5 D r' w' u v ya s Tp [] [] [] [] [] []->∀T:Array Value,T.size=252->T.getD 2 undef=aw g2->T.getD 4 undef=aw g4->T.getD 5 undef=aw g5->T.getD 6 undef=aw gp->(fA bK 7).wp Tryz.prog Q { tmps:=T,defers:=d } w':=λ r' Tp w' hg e hp T hT h2 h4 h5 h6=>
  have hR:zt c.aK c.aL c.cols q s=wU c.aK c.aL c.cols q s:=if_neg λ h=>by have h1:=h.2;rw[hg h.1] at h1;cases h1
  WR c w0 gp g2 g4 g5 D q L r' u v ya s Tp T hT h2 h4 h5 h6 d w' Q aZ hqi Ye EU (by
   rw[e]
   split
   ·exact U2
   ·exact Nat.zero_le _) U1 hih DD TG uu TH hlen hp (λ er a W he=>hE er a W (hR.trans he)) (λ a W r' u' v' pZ s' vh yi yh yo ti th eD he ha hp=>hO a W r' u' v' pZ s' vh yi yh yo ti th eD (hR.trans he) ha (e▸hp))
 simp only[bK,fA,Tryz.f28,Option.getD_some] at key;have b2:=hP.f.z2;have bg:=hP.blk;unfold fp at b2;unfold PC.cells at bg;have c0:=b2.cell 0;have c11:=bg.cell 11;have c12:=bg.cell 12;have f12:=bg.frozen 12;simp only[Uaa] at c0 c11 c12;have hn:L.i.n=q.items.length:=by rw[Ye.n,length_map]
 have aqf:=hP.f.T7;have HP:=aa hP;have HE:=aa hE;have HW:=aa aqf;have KEY:=aa key;rw[hn] at c0;clear hE hO aZ hqi Ye U2 U1 hih DD TG uu TH hlen hP b2 bg hn aqf key;simp only[bK,fA,Tryz.f28,Option.getD_some];refine wp_seq_k λ K hK=>?_
 have HK:=aa (show∀(r':Rest) (Tp:List aX) (w':World),(q.items=[]->c.aK=false)->Tp=(if q.items=[] then hd else [])->cP c w0 gp g2 (fp q L) g4 g5 D r' w' u v ya s Tp [] [] [] [] [] []->∀T:Array Value,T.size=252->T.getD 2 undef=aw g2->T.getD 4 undef=aw g4->T.getD 5 undef=aw g5->T.getD 6 undef=aw gp->K { tmps:=T,defers:=d } w' from λ r' Tp w' h1 h2 h3 T a1 a2 a3 a4 a5=>hK _ _ (KEY.ae r' Tp w' h1 h2 h3 T a1 a2 a3 a4 a5));clear hK KEY
 cases hi:q.items with
 | nil=>
   rw[hi] at c0
   cases hg:c.aK with
   | true=>rw[hg] at c11;have HR:=aa (show zt c.aK c.aL c.cols q s=.error 42 from if_pos ⟨hi,hg⟩);clear hi hg EU;obtain⟨_,_,_,uQ,_,_,b4,b5,_⟩:=HW.ae;open zbS in exact ZaF
   | false=>rw[hg] at c11;have HI:=aa hi;have HG:=aa hg;clear hi hg EU;go_wp2_with fail;refine HK.ae r hd w (λ _=>HG.ae) (by rw[if_pos HI.ae]) HP.ae _ ?_ ?_ ?_ ?_ ?_ <;> rfl
 | cons i0 il=>
   rw[hi,length_cons] at c0;have HI:=aa hi;rw[hi,length_cons] at EU;clear hi;have hlt:(0:Int)<((il.length+1:Nat):Int):=by omega
   go_wp2_with fail;refine HK.ae _ [] _ (λ h=>by rw[HI.ae] at h;cases h) (by rw[HI.ae];rfl) HP.ae.aqe _ ?_ ?_ ?_ ?_ ?_ <;> rfl):p:=h
theorem U5 (c:PC)(w0:World)(gp g2 g4 g5 D:Nat)(q:Qy)(L:QL)(r:Rest)(u v:Value)(ya:List Ex)(s:dz)(hd:List aX)(T:Array Value)(hT:T.size=252)
  (h2:T.getD 2 undef=aw g2) (h4:T.getD 4 undef=aw g4) (h5:T.getD 5 undef=aw g5) (h6:T.getD 6 undef=aw gp) (d:List Deferred) (w:World) (Q:Exit->Act->World->Prop)
  (aZ:c.Ok w0) (hqi:Tr.cO (q.items.map (·.1))) (Ye:eO w0 (q.items.map λ x=>(x.1,.string x.2)) L.i.A L.i.n) (EU:q.items.length<=100000) (U2:hd.length<=100000)
  (U1:Tr.cO q.ft) (hih:gJ w0 q.ft L.h.A L.h.n) (DD:q.ft.length<=1000000) (TG:Tr.cO (q.ord.map (·.1))) (uu:eO w0 (q.ord.map λ x=>(x.1,.bool x.2)) L.o.A L.o.n) (TH:q.ord.length<=1000000) (hlen:s.aL.length+s.aF.length+2*Tr.aQ (q.items.map (·.1))+(2*Tr.aQ q.ft+2*Tr.aQ (q.ord.map (·.1)))<=1000000)
  (hP:cP c w0 gp g2 (fp q L) g4 g5 D r w u v ya s hd [] [] [] [] [] [])
  (hE:∀er a W,zt c.aK c.aL c.cols q s=.error er->er≠0->qj a d g4 g5->wT w0 g4 g5 D W->Q .ret a (jn W g4 g5 er))
  (hO:∀a W r' u' v' pZ s' vh yi yh yo ti th eD,zt c.aK c.aL c.cols q s=.ok (ti,vh,th,eD,s')->qj a d g4 g5->cP c w0 gp g2 (fp q L) g4 g5 D r' W u' v' pZ s' ((if q.items=[] then hd else [])++vh) yi yh yo ti th eD->Q .ret a (jx W g4 g5 gp)):
  (fA bK 6).wp Tryz.prog Q { tmps:=T,defers:=d } w:=by
 open zeM in exact ZcB
def aju (gp B:Nat)(w1:World)(vv:Value)(l:List aX)(nm:ByteArray)(ty:Int)(k:Nat):Nat->World->Value->Prop
 | 0,_,v=>v=aw gp
 | 1,_,v=>v=aw gp
 | 2,_,v=>v=aw gp
 | 3,_,v=>v=ba gp 10
 | 4,_,v=>v=vv
 | 5,_,v=>v=af (k:Int)
 | 6,_,v=>v=.agg #[ag 2,ag 0,af 0,au,.string nm,af 0,az]
 | 7,_,v=>v=.string nm
 | 8,_,v=>v=ag ty
 | 9,_,v=>v=.agg #[.string nm,ag ty]
 | 10,w,v=>∃q:Nat,v=aI q 1 1/\aB w q 113 (aS ⟨nm,ty⟩).toArray/\vv.ownBlock≠some q
 | 11,w,v=>∃q:Value,v=q/\aH aS 113 2 w B q (l++ [⟨nm,ty⟩])/\Mv w1 vv q
 | 12,_,v=>v=aw gp
 | 13,_,v=>v=ba gp 10
 | _,_,_=>False
theorem Rp (gp B:Nat)(w1:World)(vv:Value)(l:List aX)(nm:ByteArray)(ty:Int)(k:Nat):∀i w w' x,aju gp B w1 vv l nm ty k i w x->AR aS 113 2 B vv l ⟨nm,ty⟩ w w'->aju gp B w1 vv l nm ty k i w' x:=by
 intro i w w' x h hl
 match i with
 | 0 | 1 | 2 | 3 | 4 | 5 | 6 | 7 | 8 | 9 | 12 | 13=>exact h
 | 10=>exact ZeC
 | 11=>exact ZfM
 | n+14=>exact h
def TL (l:List aX):Except Int (List aX)->Except Int (List aX)
 | .error e=> .error e
 | .ok m=> .ok (l++m)
theorem WU (x:Except Int (List aX)):TL [] x=x:=by exact Zg3
theorem Rq(l:List aX)(y:aX) {x x':Except Int (List aX)}(h:x'=(match x with | .error e=> .error e | .ok m=> .ok (y::m))):TL l x'=TL (l++ [y]) x:=by
 rw[h]
 cases x with
 | error e=>rfl
 | ok p=>show Except.ok (l++y::p)=Except.ok ((l++ [y])++p);rw[append_assoc];rfl
def wV (g:Bool)(aL:List Tr)(cols:List aX)(q:Qy):Except Int (List Tr×List aX×List Tr×List Tr×dz):=
 match kM cols q.aL 0 with
 | .error e=> .error e
 | .ok gc=>zt g aL cols q ⟨[],gc⟩
theorem zbX.Kal(h:p:=by exact ZgX):p:=h
theorem zbq.Kaf(h:p:=by
 clear k1;go_wp2_with fail;clear z0 z1 x2 x3 x4 x5 x6;have xd:=Tr.oP (cols:=c.cols) (CA:=c.cA) (cc:=c.cc) (by have:=IH.ae.cl;omega) t y W2 kE.ae (xf.ae.later tU.ae.f.base) (IH.ae.cols.later tU.ae.f.base);have JJ:=uW.ae;generalize hR:t.type c.cols=R at*;obtain⟨ty,er⟩:=R;dsimp only at JJ xd;refine(xd W2 (ai.refl _)).mono ?_;rintro e w6 ⟨rfl,hb6⟩;have sO:=aa (tU.ae.later hb6);clear xd tU hb6 hR uW;by_cases HW:er=0
 ·subst HW;rw[if_neg WC] at JJ;have ajw:=aa JJ;clear JJ;obtain⟨nm,iZ⟩:∃nm,nm=je k:=⟨_,rfl⟩;have SV:=aa iZ;clear iZ;have HK9:=aa (show k < 1000000 by have:=HFN.ae;have:=oC.ae;omega);have HGL:=aa (show s1.aL.length<=1000000 by have:=HK9.ae;have:=qA.ae;omega);obtain⟨VA,vc,hv,_⟩:=sO.ae.o1.reads;subst hv;go_wp2_with fail;obtain⟨WB,hWB⟩:∃WB,WB=w6:=⟨_,rfl⟩;have ql:=sO;clear sO;rw[<- hWB] at ql ⊢;refine fu _ _ (take_append_drop 14 _).symm (AR aS 113 2 w0.heap.size (Value.slice VA s1.aL.length vc) s1.aL ⟨nm,ty⟩) AR.refl (λ _ _ _=>AR.trans) AR.drew (aju gp w0.heap.size WB (Value.slice VA s1.aL.length vc) s1.aL nm ty k) (λ i w w' y h hr=>Rp _ _ _ _ _ _ _ _ _ _ _ _ h hr) T8 T8 T8 ?_ ?_
  ·simp only[take_succ_cons,take_zero];refine⟨Zb5,Zb5,Zb5,Ze7,?_,?_,?_,?_,?_,?_,?_,?_,Zb5,Ze7,trivial⟩
   ·intro ρ w3 hc hL hr;have h0:_=_:=hr.1;have jV:=dB ql.ae.blk ql.ae.o1 WC hL.grown;exact Zdr
   ·intro ρ w3 hc hL hr;have h0:_=_:=hr.1;exact aq (v:=af (k:Int)) (w':=w3) Tae ⟨AR.refl _,rfl⟩
   ·intro ρ w3 hc hL hr;have h0:_=_:=hr.1;have e1:=hc.func 60;refine bw (f:=60) (args:= #[af (k:Int)]) (w':=w3) Tay ?_;refine(oX k Tq (by have:=HK9.ae;omega) w3 (IH.ae.env.later (ql.ae.ps.afI hL.grown))).mono ?_;rintro e4 w4 ⟨rfl,b4⟩;refine⟨_,rfl,AR.later b4,?_⟩;show mz (Lm k)=_;unfold mz Lm;rw[SV.ae]
   ·intro ρ w3 hc hL hr;have h0:_=_:=hr.1;have Ia:Sem.run Tryz.prog (Instr.field 46 (.agg #[ag 2,ag 0,af 0,au,.string nm,af 0,az]) 2) w3=.ok (.string nm) w3:=by first | kernel_rfl | rfl
    exact aq (v:=.string nm) (w':=w3) (by simp[go_sem,h0,Ia];done) ⟨AR.refl _,rfl⟩
   ·intro ρ w3 hc hL hr;have h0:_=_:=hr.1;exact aq (v:=ag ty) (w':=w3) Tae ⟨AR.refl _,rfl⟩
   ·intro ρ w3 hc hL hr;have h0:_=_:=hr.1;have h1:_=_:=hr.2.1;exact aq (v:=.agg #[.string nm,ag ty]) (w':=w3) TaJ ⟨AR.refl _,rfl⟩
   ·intro ρ w3 hc hL hr;have h0:_=_:=hr.1;refine aq (v:=aI w3.heap.size 1 1) (w':=w3.alloc (.cells #[.string nm,ag ty] 113)) Tan ⟨AR.later (ah w3 _),⟨_,rfl,aB.new w3 _ _,λ e=>?_⟩⟩;have:=((hL.old ql.ae.o1).lt e).1;omega
   ·intro ρ w3 hc hL hr;have h0:_=_:=hr.1;obtain⟨Kx,h1,uE,Jv⟩:∃q:Nat,ρ (.tmp 118)=aI q 1 1/\aB w3 q 113 (aS ⟨nm,ty⟩).toArray/\(Value.slice VA s1.aL.length vc).ownBlock≠some q:=hr.2.1;obtain⟨v',w',hrun,ho,yF,Ew⟩:=eM (P:=Tryz.prog) (w:=w3) 28 28 _ 24 Tryz.underlying28 rD rfl Tq (λ _=>rfl) TaX (hL.old ql.ae.o1) Kx uE (by have:=HGL.ae;show(s1.aL.length+1)*24<=_;omega) (by have:=HGL.ae;show s1.aL.length+1<=_;omega) (Nat.le_trans ql.ae.f.base.size hL.grown.size);exact ZbP
  intro W3 hL;simp only[Uab];rintro a0 - a1 - a2 - a3 - a4 - a5 - a6 - a7 - a8 - a9 - FM - J3 ⟨aCN,rfl,U6,agv⟩ a12 - _ rfl;simp only[bD,Act.put,Uac];obtain⟨A4,QB,hv4,_⟩:=U6.reads;rw[length_append,length_singleton] at hv4;subst hv4;have O4:=aa U6;have HM4:=aa agv;have J4:=aa hL.grown;have jV:=dB ql.ae.blk ql.ae.o1 WC hL.grown;have f10:=jV.frozen 10;unfold PC.cells at jV;have c10:=jV.cell 10;simp only[Uaa] at c10;clear U6 agv jV hL;have T9:=aa (ql.ae.call (gM.I9 (gp:=gp) J4.ae HM4.ae (Value.slice A4 (s1.aL.length+1) QB) 10) (ql.ae.ps.Qw O4.ae J4.ae));clear ql O4 HM4 J4;have hk7:k < 1000000:=HK9.ae;go_wp2_with fail;clear f10 c10;generalize World.setCell W3 _ _=WD at*;go_roundw;case rel=>exact⟨k+1,_,⟨s1.aF,s1.aL++ [⟨nm,ty⟩]⟩,hlt,by go_num,uH.ae,T9.ae,by
   rw[AJ.ae]
   exact Rq s1.aL ⟨nm,ty⟩ (by rw[SV.ae];exact ajw.ae),by
   show(s1.aL++ [_]).length=k+1
   rw[length_append,qA.ae]
   rfl⟩
  case measure=>exact Za2
 ·rw[if_pos HW] at JJ;have oz:=aa (show X=.error er by
   rw[AJ.ae,JJ]
   rfl)
  have t1:(er != 0)=true:=by simp[HW]
  have nJ:=aa HW;have HW2:=aa sO.ae.f.T7;clear HW JJ;obtain⟨_,_,_,uQ,_,_,b4,b5,_⟩:=HW2.ae;open zbX in exact ZaF):p:=h
theorem zfg.Kbe(h:p:=by clear jN ME;open zbq in exact Zay):p:=h
theorem zh6.Kcj(h:p:=by go_upto_region 18 with fail;open zfg in exact Zde):p:=h
theorem zgG.KbJ(h:p:=by
 have oC:=aa Az;have jN:=aa hP;simp only[bK,fA,Tryz.f28,Option.getD_some] at key;have KEY:=aa key;have b2:=hP.f.z2;unfold fp at b2;have c4:=b2.cell 4;simp only[Uaa] at c4;rw[hn,<- Az] at c4;clear hE hF hO ih q1 q2 hqi Ye EU U2 U1 hih DD TG uu q3 q4 TH hlen q5 hP b2 hn Az key;simp only[bK,fA,Tryz.f28,Option.getD_some];refine wp_seq_k λ K hK=>?_
 have HK:=aa (show∀(gc:List aX) (v':Value) (w':World),X=.ok gc->gc.length<=q.aL.length->cP c w0 gp g2 (fp q L) g4 g5 D r w' u v' [] ⟨[],gc⟩ hd [] [] [] [] [] []->∀T:Array Value,T.size=252->T.getD 2 undef=aw g2->T.getD 4 undef=aw g4->T.getD 5 undef=aw g5->T.getD 6 undef=aw gp->K { tmps:=T,defers:=d } w' from λ gc v' w' h1 h2 h3 T a1 a2 a3 a4 a5=>hK _ _ (KEY.ae gc v' w' h1 h2 h3 T a1 a2 a3 a4 a5));clear hK KEY;go_wp2_with fail;clear c4;go_loopw [94] (λ i wr=>∃(k:Nat) (v1:Value) (s1:dz),k<=zs.length/\i=af k/\s1.aF=[]/\cP c w0 gp g2 (fp q L) g4 g5 D r wr u v1 [] s1 hd [] [] [] [] [] []/\X=TL s1.aL (kM c.cols (q.aL.drop k) k)/\s1.aL.length=k) (λ i _=>zs.length - (intOf i).toNat);case atStart=>exact⟨0,v,⟨[],[]⟩,Nat.zero_le _,rfl,rfl,jN.ae,by rw[drop_zero,WU];exact Q5.ae,rfl⟩
 case round=>
  clear jN;obtain⟨k,v1,s1,hk,rfl,TI,hP,NW,Tv⟩:=hrel;have uH:=aa TI;have AJ:=aa NW;have jN:=aa hP;have qA:=aa Tv;clear TI NW hP Tv;by_cases hlt:k < zs.length
  ·have fI:k < q.aL.length:=by rw[<- oC.ae];exact hlt
   obtain⟨b,off,hA,Cr,hex⟩:∃b off,L.g.A=some ⟨b,off,none⟩/\b < w0.heap.size/\ck w0 b (off+k*7) zs[k]:=by exact Zd5
   have rI:(q.aL[k]'fI).at_ w0 (Old w0) zs[k]:=by obtain⟨KK,h1,h2⟩:=pI fI Q4.ae;rw[getElem?_eq_getElem hlt] at h1;injection h1 with h1;rw[h1];exact h2
   have fW:(q.aL[k]'fI).ok:=dN.1 Q1.ae _ (getElem_mem fI);have JJ:kM c.cols (q.aL.drop k) k=(if ((q.aL[k]'fI).type c.cols).2≠0 then .error ((q.aL[k]'fI).type c.cols).2 else match kM c.cols (q.aL.drop (k+1)) (k+1)with
     | .error e=> .error e
     | .ok l=> .ok (⟨je k,((q.aL[k]'fI).type c.cols).1⟩::l)):=by
    rw[drop_eq_getElem_cons fI];rfl
   generalize zs[k]=y at*;generalize (q.aL[k]'fI)=t at*;open zh6 in exact Zgt
  ·have GN:k=zs.length:=by omega
   have U0:=aa (show X=.ok s1.aL by
    rw[AJ.ae,GN,oC.ae,drop_length]
    show Except.ok (s1.aL++ [])=_
    rw[append_nil])
   have HPZ:=aa (show cP c w0 gp g2 (fp q L) g4 g5 D r wr u v1 [] ⟨[],s1.aL⟩ hd [] [] [] [] [] [] by
    have h:=jN.ae
    obtain⟨sa,sg⟩:=s1
    have h2:sa=[]:=uH.ae
    rw[h2] at h
    exact h)
   subst GN;go_wp2_with fail;refine HK.ae s1.aL v1 wr U0.ae (by have:=qA.ae;have:=oC.ae;omega) HPZ.ae _ ?_ ?_ ?_ ?_ ?_ <;> rfl):p:=h
theorem zf1.Kbw(h:p:=by
 obtain⟨hn,zs,q3,q4⟩:=hig;have Az:zs.length=q.aL.length:=q4.length;obtain⟨X,q5⟩:∃X,X=kM c.cols q.aL 0:=⟨_,rfl⟩
 have key:∀(gc:List aX) (v':Value) (w':World),X=.ok gc->gc.length<=q.aL.length->cP c w0 gp g2 (fp q L) g4 g5 D r w' u v' [] ⟨[],gc⟩ hd [] [] [] [] [] []->∀T:Array Value,T.size=252->T.getD 2 undef=aw g2->T.getD 4 undef=aw g4->T.getD 5 undef=aw g5->T.getD 6 undef=aw gp->(fA bK 6).wp Tryz.prog Q { tmps:=T,defers:=d } w':=λ gc v' w' hx zX hp T hT h2 h4 h5 h6=>
  have hR:wV c.aK c.aL c.cols q=zt c.aK c.aL c.cols q ⟨[],gc⟩:=by unfold wV;rw[<- q5,hx]
  U5 c w0 gp g2 g4 g5 D q L r u v' [] ⟨[],gc⟩ hd T hT h2 h4 h5 h6 d w' Q ih hqi Ye EU U2 U1 hih DD TG uu TH (by show gc.length+0+_+_<=_;omega) hp (λ er a W he=>hE er a W (hR.trans he)) (λ a W r' u' v' pZ s' vh yi yh yo ti th eD he ha hp=>hO a W r' u' v' pZ s' vh yi yh yo ti th eD (hR.trans he) ha hp)
 have hF:∀er a W,X=.error er->er≠0->qj a d g4 g5->wT w0 g4 g5 D W->Q .ret a (jn W g4 g5 er):=λ er a W hx=>hE er a W (by
  unfold wV
  rw[<- q5,hx])
 open zgG in exact Zew):p:=h
theorem WV (c:PC)(w0:World)(gp g2 g4 g5 D:Nat)(q:Qy)(L:QL)(r:Rest)(u v:Value)(hd:List aX)(T:Array Value)(hT:T.size=252)
  (h1:T.getD 1 undef=.slice c.cA c.cols.length c.cc) (h2:T.getD 2 undef=aw g2) (h4:T.getD 4 undef=aw g4) (h5:T.getD 5 undef=aw g5) (h6:T.getD 6 undef=aw gp) (d:List Deferred) (w:World) (Q:Exit->Act->World->Prop)
  (ih:c.Ok w0) (q1:Tr.cO q.aL) (hig:gJ w0 q.aL L.g.A L.g.n) (q2:q.aL.length<=100000) (hqi:Tr.cO (q.items.map (·.1))) (Ye:eO w0 (q.items.map λ y=>(y.1,.string y.2)) L.i.A L.i.n) (EU:q.items.length<=100000) (U2:hd.length<=100000)
  (U1:Tr.cO q.ft) (hih:gJ w0 q.ft L.h.A L.h.n) (DD:q.ft.length<=1000000) (TG:Tr.cO (q.ord.map (·.1))) (uu:eO w0 (q.ord.map λ y=>(y.1,.bool y.2)) L.o.A L.o.n) (TH:q.ord.length<=1000000) (hlen:q.aL.length+2*Tr.aQ (q.items.map (·.1))+(2*Tr.aQ q.ft+2*Tr.aQ (q.ord.map (·.1)))<=1000000)
  (hP:cP c w0 gp g2 (fp q L) g4 g5 D r w u v [] ⟨[],[]⟩ hd [] [] [] [] [] [])
  (hE:∀er a W,wV c.aK c.aL c.cols q=.error er->er≠0->qj a d g4 g5->wT w0 g4 g5 D W->Q .ret a (jn W g4 g5 er))
  (hO:∀a W r' u' v' pZ s' vh yi yh yo ti th eD,wV c.aK c.aL c.cols q=.ok (ti,vh,th,eD,s')->qj a d g4 g5->cP c w0 gp g2 (fp q L) g4 g5 D r' W u' v' pZ s' ((if q.items=[] then hd else [])++vh) yi yh yo ti th eD->Q .ret a (jx W g4 g5 gp)):
  (fA bK 5).wp Tryz.prog Q { tmps:=T,defers:=d } w:=by
 open zf1 in exact Zea
def wW (g:Bool)(aL:List Tr)(cols:List aX)(q:Qy):Except Int (List Tr×List aX×List Tr×List Tr×dz):=
 match pd cols q.cC with
 | .error e=> .error e
 | .ok _=>wV g aL cols q
structure PlQ (c:PC) (w0:World) (q:Qy) (L:QL) (hd:List aX):Prop where
 ok:c.Ok w0
 qw:Tr.cO q.cC
 iw:gJ w0 q.cC L.w.A L.w.n
 nw:q.cC.length<=100000
 qg:Tr.cO q.aL
 ig:gJ w0 q.aL L.g.A L.g.n
 ng:q.aL.length<=100000
 qi:Tr.cO (q.items.map (·.1))
 ii:eO w0 (q.items.map λ x=>(x.1,.string x.2)) L.i.A L.i.n
 ni:q.items.length<=100000
 nh:hd.length<=100000
 qh:Tr.cO q.ft
 ih:gJ w0 q.ft L.h.A L.h.n
 nhv:q.ft.length<=100000
 qo:Tr.cO (q.ord.map (·.1))
 io:eO w0 (q.ord.map λ x=>(x.1,.bool x.2)) L.o.A L.o.n
 no:q.ord.length<=1000000
 len:q.aL.length+2*Tr.aQ (q.items.map (·.1))+(2*Tr.aQ q.ft+2*Tr.aQ (q.ord.map (·.1)))<=1000000
theorem zbY.Kal(h:p:=by exact ZgX):p:=h
theorem zbr.Kaf(h:p:=by
 clear k1;go_wp2_with fail;clear z0 z1 x2 x3 x4 x5 x6;have xd:=Tr.oP (cols:=c.cols) (CA:=c.cA) (cc:=c.cc) (by have:=HFN.ae.ok.cl;omega) t y W2 kE.ae (xf.ae.later tU.ae.f.base) (HFN.ae.ok.cols.later tU.ae.f.base);have JJ:=uW.ae;generalize hR:t.type c.cols=R at*;obtain⟨ty,Kx⟩:=R;dsimp only at JJ xd;refine(xd W2 (ai.refl _)).mono ?_;rintro e w6 ⟨rfl,hb6⟩;have HP6:=aa (tU.ae.later hb6);have Kf:=aa JJ;clear xd tU hb6 hR uW JJ;go_wp2_with fail;refine(uf ty Kx w6).mono ?_;rintro e w7 ⟨rfl,NR⟩;have sO:=aa (HP6.ae.later NR);have JJ:=Kf.ae;clear HP6 NR Kf;generalize nA (ty,Kx)=er at*;by_cases HW:er=0
 ·subst HW;rw[if_neg WC] at JJ;have ajw:=aa JJ;clear JJ;have hk7:k < 1000000:=by have:=HFN.ae.nw;have:=oC.ae;omega
  go_wp2_with fail;go_roundw;case rel=>exact⟨k+1,hlt,by go_num,sO.ae,Ee.ae.trans ajw.ae⟩
  case measure=>exact Za2
 ·rw[if_pos HW] at JJ;have oz:=aa (show X=.error er from Ee.ae.trans JJ);have t1:(er != 0)=true:=by simp[HW]
  have nJ:=aa HW;have HW2:=aa sO.ae.f.T7;clear HW JJ;obtain⟨_,_,_,uQ,_,_,b4,b5,_⟩:=HW2.ae;open zbY in exact ZaF):p:=h
theorem zfh.Kbe(h:p:=by clear jN ME;open zbr in exact Zay):p:=h
theorem zh5.Kcj(h:p:=by go_upto_region 11 with fail;open zfh in exact Zde):p:=h
theorem zf2.Kbw(h:p:=by
 obtain⟨hn,zs,q3,q4⟩:=q2.iw;have Az:zs.length=q.cC.length:=q4.length;obtain⟨X,q5⟩:∃X,X=pd c.cols q.cC:=⟨_,rfl⟩
 have key:∀(w':World),X=.ok ()->cP c w0 gp g2 (fp q L) g4 g5 D r w' u v [] ⟨[],[]⟩ hd [] [] [] [] [] []->∀T:Array Value,T.size=252->T.getD 1 undef=.slice c.cA c.cols.length c.cc->T.getD 2 undef=aw g2->T.getD 4 undef=aw g4->T.getD 5 undef=aw g5->T.getD 6 undef=aw gp->(fA bK 5).wp Tryz.prog Q { tmps:=T,defers:=d } w':=λ w' hx hp T hT h1 h2 h4 h5 h6=>
  have hR:wW c.aK c.aL c.cols q=wV c.aK c.aL c.cols q:=by unfold wW;rw[<- q5,hx]
  WV c w0 gp g2 g4 g5 D q L r u v hd T hT h1 h2 h4 h5 h6 d w' Q q2.ok q2.qg q2.ig q2.ng q2.qi q2.ii q2.ni q2.nh q2.qh q2.ih (by have:=q2.nhv;omega) q2.qo q2.io q2.no q2.len hp (λ Kx a W he=>hE Kx a W (hR.trans he)) (λ a W r' u' v' pZ s' vh yi yh yo ti th eD he ha hp=>hO a W r' u' v' pZ s' vh yi yh yo ti th eD (hR.trans he) ha hp)
 have hE2:∀Kx a W,X=.error Kx->Kx≠0->qj a d g4 g5->wT w0 g4 g5 D W->Q .ret a (jn W g4 g5 Kx):=λ Kx a W hx=>hE Kx a W (by
  unfold wW
  rw[<- q5,hx])
 have HF:=aa hE2;have HFN:=aa q2;have Q3:=aa q3;have Q4:=aa q4;have Q5:=aa q5;have oC:=aa Az;have jN:=aa hP;simp only[bK,fA,Tryz.f28,Option.getD_some] at key;have KEY:=aa key;have b2:=hP.f.z2;unfold fp at b2;have c3:=b2.cell 3;simp only[Uaa] at c3;rw[hn,<- Az] at c3;clear hE hE2 hO q2 q3 q4 q5 hP b2 hn Az key;simp only[bK,fA,Tryz.f28,Option.getD_some];refine wp_seq_k λ K hK=>?_
 have HK:=aa (show∀(w':World),X=.ok ()->cP c w0 gp g2 (fp q L) g4 g5 D r w' u v [] ⟨[],[]⟩ hd [] [] [] [] [] []->∀T:Array Value,T.size=252->T.getD 1 undef=.slice c.cA c.cols.length c.cc->T.getD 2 undef=aw g2->T.getD 4 undef=aw g4->T.getD 5 undef=aw g5->T.getD 6 undef=aw gp->K { tmps:=T,defers:=d } w' from λ w' h1 h3 T a0 a1 a2 a3 a4 a5=>hK _ _ (KEY.ae w' h1 h3 T a0 a1 a2 a3 a4 a5));clear hK KEY;go_wp2_with fail;clear c3;go_loopw [77] (λ i wr=>∃(k:Nat),k<=zs.length/\i=af k/\cP c w0 gp g2 (fp q L) g4 g5 D r wr u v [] ⟨[],[]⟩ hd [] [] [] [] [] []/\X=pd c.cols (q.cC.drop k)) (λ i _=>zs.length - (intOf i).toNat);case atStart=>exact⟨0,Nat.zero_le _,rfl,jN.ae,by rw[drop_zero];exact Q5.ae⟩
 case round=>
  clear jN;obtain⟨k,hi,rfl,hP,hlk⟩:=hrel;have Ee:=aa hlk;have jN:=aa hP;clear hlk hP;by_cases hlt:k < zs.length
  ·have fI:k < q.cC.length:=by rw[<- oC.ae];exact hlt
   obtain⟨b,off,hA,Cr,hex⟩:∃b off,L.w.A=some ⟨b,off,none⟩/\b < w0.heap.size/\ck w0 b (off+k*7) zs[k]:=by exact Zd5
   have rI:(q.cC[k]'fI).at_ w0 (Old w0) zs[k]:=by obtain⟨KK,h1,h2⟩:=pI fI Q4.ae;rw[getElem?_eq_getElem hlt] at h1;injection h1 with h1;rw[h1];exact h2
   have fW:(q.cC[k]'fI).ok:=dN.1 HFN.ae.qw _ (getElem_mem fI);have JJ:pd c.cols (q.cC.drop k)=(if nA ((q.cC[k]'fI).type c.cols)≠0 then .error (nA ((q.cC[k]'fI).type c.cols))else pd c.cols (q.cC.drop (k+1))):=by rw[drop_eq_getElem_cons fI];rfl
   generalize zs[k]=y at*;generalize (q.cC[k]'fI)=t at*;open zh5 in exact Zgt
  ·have GN:k=zs.length:=by omega
   have U0:=aa (show X=.ok () by
    rw[Ee.ae,GN,oC.ae,drop_length]
    rfl)
   subst GN;go_wp2_with fail;refine HK.ae wr U0.ae jN.ae _ ?_ ?_ ?_ ?_ ?_ ?_ <;> rfl):p:=h
theorem WW (c:PC)(w0:World)(gp g2 g4 g5 D:Nat)(q:Qy)(L:QL)(r:Rest)(u v:Value)(hd:List aX)(T:Array Value)(hT:T.size=252)
  (h1:T.getD 1 undef=.slice c.cA c.cols.length c.cc) (h2:T.getD 2 undef=aw g2) (h4:T.getD 4 undef=aw g4) (h5:T.getD 5 undef=aw g5) (h6:T.getD 6 undef=aw gp) (d:List Deferred) (w:World) (Q:Exit->Act->World->Prop)
  (q2:PlQ c w0 q L hd)
  (hP:cP c w0 gp g2 (fp q L) g4 g5 D r w u v [] ⟨[],[]⟩ hd [] [] [] [] [] [])
  (hE:∀Kx a W,wW c.aK c.aL c.cols q=.error Kx->Kx≠0->qj a d g4 g5->wT w0 g4 g5 D W->Q .ret a (jn W g4 g5 Kx))
  (hO:∀a W r' u' v' pZ s' vh yi yh yo ti th eD,wW c.aK c.aL c.cols q=.ok (ti,vh,th,eD,s')->qj a d g4 g5->cP c w0 gp g2 (fp q L) g4 g5 D r' W u' v' pZ s' ((if q.items=[] then hd else [])++vh) yi yh yo ti th eD->Q .ret a (jx W g4 g5 gp)):
  (fA bK 4).wp Tryz.prog Q { tmps:=T,defers:=d } w:=by
 open zf2 in exact Zea
open Go.Shelf
theorem aem (q:Qy)(L:QL)(w:World):ar 56 #[oy q L] w λ e w'=>∃g,e=.returned (.func (.func 96) #[] #[aw g])/\aB w' g 27 (fp q L)/\w.heap.size<=g/\aj w w':=by have bb:=ah w (.cells (fp q L) 27);have HX:=aB.new w 27 (fp q L);unfold oy;unfold fp at*;go_enter Tryz.func56,Tryz.ntmps56;go_wp2_with fail;go_ret;exact⟨w.heap.size,rfl,HX,Nat.le_refl _,bb⟩
attribute [local go_sem] Oper.semAt_some
def dD (D:Nat):List Deferred:=[{ target:=.collected D,args:= #[] }]
def rS (g:Bool)(aL:List Tr)(cols:List aX)(q:Qy):Except Int (List Tr×List aX×List Tr×List Tr×dz):=
 if q.all.any (λ t=>decide (32 < t.depth))=true then .error 1 else wW g aL cols q
structure DI (c:PC) (w0:World) (q:Qy) (L:QL) (hd:List aX):Prop where
 ok:c.Ok w0
 qw:Tr.cO q.cC
 iw:gJ w0 q.cC L.w.A L.w.n
 nw:q.cC.length<=100000
 qg:Tr.cO q.aL
 ig:gJ w0 q.aL L.g.A L.g.n
 ng:q.aL.length<=100000
 qi:Tr.cO (q.items.map (·.1))
 ii:eO w0 (q.items.map λ x=>(x.1,.string x.2)) L.i.A L.i.n
 ni:q.items.length<=100000
 nh:hd.length<=100000
 qh:Tr.cO q.ft
 ih:gJ w0 q.ft L.h.A L.h.n
 nhv:q.ft.length<=100000
 qo:Tr.cO (q.ord.map (·.1))
 io:eO w0 (q.ord.map λ x=>(x.1,.bool x.2)) L.o.A L.o.n
 no:q.ord.length<=1000000
 len:q.all.any (λ t=>decide (32 < t.depth))=false->q.aL.length+2*Tr.aQ (q.items.map (·.1))+(2*Tr.aQ q.ft+2*Tr.aQ (q.ord.map (·.1)))<=1000000
variable{q:Qy}{L:QL}
theorem DI.full(h:DI c w0 q L hd)(hx:q.all.any (λ t=>decide (32 < t.depth))=false):PlQ c w0 q L hd:=
 ⟨h.ok,h.qw,h.iw,h.nw,h.qg,h.ig,h.ng,h.qi,h.ii,h.ni,h.nh,h.qh,h.ih,h.nhv,h.qo,h.io,h.no,h.len hx⟩
theorem U7(hq:DI c w0 q L hd)(n:Nat)(hn:1<=n)(w:World)(gq:Nat)(hb:aB w gq 27 (fp q L))(hw:aj w0 w):
  ∃LL:List (QE w0),LL.map (λ x=>x.1.2)=q.all/\SeqStopsK Fence.wide n Tryz.prog 96 #[aw gq] QI Fr (λ ys=>ys=LL) (λ pre=>pre <+: LL) LL.length w:=by
 obtain⟨ni,zs,hzi,ND,aql⟩:=hq.ii;obtain⟨no,zo,hzo,aqm,aqn⟩:=hq.io;obtain⟨nw,yw,hyw,ajx⟩:=hq.iw;obtain⟨ng,yg,hyg,ajy⟩:=hq.ig;obtain⟨nh,yh,hyh,ajz⟩:=hq.ih;rw[length_map] at ni no;have e1:(q.items.map λ x=>(x.1,Value.string x.2)).map (·.1)=q.items.map (·.1):=by simp
 have e2:(q.ord.map λ x=>(x.1,Value.bool x.2)).map (·.1)=q.ord.map (·.1):=by simp
 rw[e1] at aql;rw[e2] at aqn;obtain⟨Li,l1,l2⟩:=AH _ _ hq.qi aql;obtain⟨Lc,l3,l4⟩:=AH (q.cC++q.aL++q.ft) (yw++yg++yh) (dN.2 λ t ht=>by
  rcases List.mem_append.1 ht with ht | ht
  ·rcases List.mem_append.1 ht with ht | ht
   ·exact dN.1 hq.qw t ht
   ·exact dN.1 hq.qg t ht
  ·exact dN.1 hq.qh t ht) (Tr.all_append (Tr.all_append ajx ajy) ajz)
 obtain⟨Lo,l5,l6⟩:=AH _ _ hq.qo aqn;refine⟨Li++Lc++Lo,by unfold Qy.all;rw[map_append,map_append,l2,l4,l6],?_⟩;have ft:zs.length=q.items.length:=by have:=congrArg List.length ND;simpa using this
 have fI:zo.length=q.ord.length:=by have:=congrArg List.length aqm;simpa using this
 intro l J Jx W hW hJ hJx hY h0
 have:=adf w0 n hn l gq q L zs zo yw yg yh Li Lc Lo hzi hzo hyw.old hyg.old hyh.old Tq Tq (by rw[nw,ajx.length]) (by rw[ng,ajy.length]) (by rw[nh,ajz.length]) l1 l5 l3
  (λ z hz=>by
    have h1:z.2∈zs.map (·.2):=mem_map_of_mem hz
    rw[ND] at h1
    obtain⟨a,ha,hb⟩:=List.mem_map.1 h1
    obtain⟨a2,_,rfl⟩:=List.mem_map.1 ha
    exact⟨_,hb.symm⟩)
  (λ z hz=>by
    have h1:z.2∈zo.map (·.2):=mem_map_of_mem hz
    rw[aqm] at h1
    obtain⟨a,ha,hb⟩:=List.mem_map.1 h1
    obtain⟨a2,_,rfl⟩:=List.mem_map.1 ha
    exact⟨_,hb.symm⟩)
  ⟨by have:=hq.ni;omega,by have:=hq.no;omega,by
    have a1:=hq.nw
    have a2:=hq.ng
    have a3:=hq.nhv
    have b1:=ajx.length
    have b2:=ajy.length
    have b3:=ajz.length
    rw[length_append,length_append]
    omega⟩ J Jx W hJ hY (hb.later hW) ((Fr.below hw).trans (Fr.below hW)) h0
 exact this
attribute [local go_sem] Oper.semAt_some
def zu(x:QE w0):Bool:=decide (32 < x.1.2.depth)
def ajA (w0:World)(g4 g5:Nat)(W:World):Prop:=aj w0 W/\aB W g4 72 #[.pointer none]/\aB W g5 34 #[af 1]
def JM:Code->Code
 | .seq (.seq _ (.block _ c)) _=>c
 | _=> .skip
noncomputable def Rs:Code:=JM (fA bK 3)
variable{W':World}{row:Option Nat}
theorem DJ(h:aB W g t cs)(hg:W.grownBy W' row)(hr:∀r,row=some r->∃o:Obj,W.heap[r]?=some o/\o.isCells=false):aB W' g t cs:=h.grown hg λ e=>by obtain⟨o,h1,h2⟩:=hr g e.symm;rw[h] at h1;injection h1 with h1;rw[<- h1] at h2;cases h2
theorem zdn.KaD(h:p:=by
 clear hb;gi_wp2_with (refine⟨trivial,?_⟩;gi_at_call 57;refine(CallsIn.inRound l (callsIn_wide.2 ajB)).mono ?_;rintro e W2 ⟨rfl,hb2⟩;clear ajB;have c4:=(H4.ae.later hb2).cell 0;have c5:=((H5.ae.later hb2).far (p:=⟨g4,0,none⟩) (Ne.symm Ay) (.pointer none)).cell 0;have f4:=(H4.ae.later hb2).frozen 0;have f5:=((H5.ae.later hb2).far (p:=⟨g4,0,none⟩) (Ne.symm Ay) (.pointer none)).frozen 0;simp only[getElem?_toArray,getElem?_cons_zero] at c4 c5)
 ·rename_i hdp;have hx:zu x=true:=by unfold zu;first | exact decide_eq_true Tq| simpa using hdp
  refine⟨?_,rfl,by rw[any_append,any_cons,hx];simp,?_⟩
  ·exact(((KeepsOthers.of_grownBy (nG hb2) (λ _ _ e _=>by cases e)).trans (KeepsOthers.setCell _ _ _)).trans (KeepsOthers.setCell _ _ _)).from _
  ·refine⟨((Below.trans Kx ((HI1.ae.mono Kx.size).trans (hb2.mono (Nat.le_trans Kx.size HI1.ae.size)))).setCell hl4 _).setCell hl5 _,?_,?_⟩
   ·exact(((H4.ae.later hb2).aT 0 _).far (p:=⟨g5,0,none⟩) Ay _)
   ·exact(((H5.ae.later hb2).far (p:=⟨g4,0,none⟩) (Ne.symm Ay) _).aT 0 _)
 ·rename_i hdp;have hx:zu x=false:=by unfold zu;first | exact decide_eq_false Tq| simpa using hdp
  exact⟨(KeepsOthers.of_grownBy (nG hb2) (λ _ _ e _=>by cases e)).from _,Fr.below hb2,HI1.ae.trans (hb2.mono HI1.ae.size),by rw[any_append,any_cons,hx,HI2.ae];rfl⟩):p:=h
theorem WY (w0 w1:World)(LL:List (QE w0))(gq g4 g5:Nat)(T:Array Value)(hT:T.size=252)(h4:T.getD 4 undef=aw g4)(h5:T.getD 5 undef=aw g5)(h69:T.getD 69 undef=.func (.func 96) #[] #[aw gq])
  (hseq:SeqStopsK Fence.wide 3 Tryz.prog 96 #[aw gq] QI Fr (λ ys=>ys=LL) (λ pre=>pre <+: LL) LL.length w1)
  (Kx:aj w0 w1) (hb4:aB w1 g4 72 #[.pointer none]) (ID:aB w1 g5 34 #[af 0]) (Ay:g4≠g5) (hl4:w0.heap.size<=g4) (hl5:w0.heap.size<=g5) (Q:Exit->Act->World->Prop)
  (hdone:∀D W,aj w1 W->w1.heap.size<=D->W.heap[D]?=some (.deferred (some []))->LL.any zu=false->Q .normal { tmps:=T,defers:=[{ target:=.collected D,args:= #[] }] } W)
  (TM:∀D W,w1.heap.size<=D->LL.any zu=true->ajA w0 g4 g5 W->W.heap[D]?=some (.deferred (some []))->Q .ret { tmps:=T,defers:=[{ target:=.collected D,args:= #[] }] } W):
  Rs.wp Tryz.prog Q { tmps:=T,defers:=[] } w1:=by
 obtain⟨f,rfl⟩:=kU T hT;have h4:f 4=_:=h4;have h5:f 5=_:=h5;have h69:f 69=_:=h69;have nY:bS f= #[f 0,f 1,f 2,f 3,aw g4,aw g5,f 6,f 7,f 8,f 9,f 10,f 11,f 12,f 13,f 14,f 15,f 16,f 17,f 18,f 19,f 20,f 21,f 22,f 23,f 24,f 25,f 26,f 27,f 28,f 29,f 30,f 31,f 32,f 33,f 34,f 35,f 36,f 37,f 38,f 39,f 40,f 41,f 42,f 43,f 44,f 45,f 46,f 47,f 48,f 49,f 50,f 51,f 52,f 53,f 54,f 55,f 56,f 57,f 58,f 59,f 60,f 61,f 62,f 63,f 64,f 65,f 66,f 67,f 68,.func (.func 96) #[] #[aw gq],f 70,f 71,f 72,f 73,f 74,f 75,f 76,f 77,f 78,f 79,f 80,f 81,f 82,f 83,f 84,f 85,f 86,f 87,f 88,f 89,f 90,f 91,f 92,f 93,f 94,f 95,f 96,f 97,f 98,f 99,f 100,f 101,f 102,f 103,f 104,f 105,f 106,f 107,f 108,f 109,f 110,f 111,f 112,f 113,f 114,f 115,f 116,f 117,f 118,f 119,f 120,f 121,f 122,f 123,f 124,f 125,f 126,f 127,f 128,f 129,f 130,f 131,f 132,f 133,f 134,f 135,f 136,f 137,f 138,f 139,f 140,f 141,f 142,f 143,f 144,f 145,f 146,f 147,f 148,f 149,f 150,f 151,f 152,f 153,f 154,f 155,f 156,f 157,f 158,f 159,f 160,f 161,f 162,f 163,f 164,f 165,f 166,f 167,f 168,f 169,f 170,f 171,f 172,f 173,f 174,f 175,f 176,f 177,f 178,f 179,f 180,f 181,f 182,f 183,f 184,f 185,f 186,f 187,f 188,f 189,f 190,f 191,f 192,f 193,f 194,f 195,f 196,f 197,f 198,f 199,f 200,f 201,f 202,f 203,f 204,f 205,f 206,f 207,f 208,f 209,f 210,f 211,f 212,f 213,f 214,f 215,f 216,f 217,f 218,f 219,f 220,f 221,f 222,f 223,f 224,f 225,f 226,f 227,f 228,f 229,f 230,f 231,f 232,f 233,f 234,f 235,f 236,f 237,f 238,f 239,f 240,f 241,f 242,f 243,f 244,f 245,f 246,f 247,f 248,f 249,f 250,f 251]:=by simp only[bS,h4,h5,h69]
 rw[nY] at hdone TM ⊢;clear nY h4 h5 h69;clear h4 h5 h69 hT;have HD:=aa hdone;have HS:=aa TM;have U8:=hseq;simp only[Rs,JM,bK,fA,Tryz.f28,Option.getD_some];refine(wpIn_wide (n:=4)).1 ?_
 refine wpIn_rangeFunc_ownH rfl Tq (gf:=96) (lb:= #[aw gq]) rfl trivial (enters_of Tryz.func96 T8 rfl) U8 (λ h k=>Fr.trans h k) (λ W l ob ob' _ h1 h2 _=>Fr.putObj W l ob ob' h1 h2) (Below.refl _ _) (λ _=>rfl)
  (λ pre W=>aj w1 W/\pre.any zu=false)
  (λ cd pre W=>cd=.ret/\pre.any zu=true/\ajA w0 g4 g5 W)
  ?hI ?hIx ?h0
  (λ x a' W=>∃g7,aB W g7 46 (bF x.1.1).toArray/\a'= { tmps:= #[f 0,f 1,f 2,f 3,aw g4,aw g5,f 6,aw g7,f 8,f 9,f 10,f 11,f 12,f 13,f 14,f 15,f 16,f 17,f 18,f 19,f 20,f 21,f 22,f 23,f 24,f 25,f 26,f 27,f 28,f 29,f 30,f 31,f 32,f 33,f 34,f 35,f 36,f 37,f 38,f 39,f 40,f 41,f 42,f 43,f 44,f 45,f 46,f 47,f 48,f 49,f 50,f 51,f 52,f 53,f 54,f 55,f 56,f 57,f 58,f 59,f 60,f 61,f 62,f 63,f 64,f 65,f 66,f 67,f 68,.func (.func 96) #[] #[aw gq],(.agg (bF x.1.1).toArray),f 71,f 72,f 73,f 74,f 75,f 76,f 77,f 78,f 79,f 80,f 81,f 82,f 83,f 84,f 85,f 86,f 87,f 88,f 89,f 90,f 91,f 92,f 93,f 94,f 95,f 96,f 97,f 98,f 99,f 100,f 101,f 102,f 103,f 104,f 105,f 106,f 107,f 108,f 109,f 110,f 111,f 112,f 113,f 114,f 115,f 116,f 117,f 118,f 119,f 120,f 121,f 122,f 123,f 124,f 125,f 126,f 127,f 128,f 129,f 130,f 131,f 132,f 133,f 134,f 135,f 136,f 137,f 138,f 139,f 140,f 141,f 142,f 143,f 144,f 145,f 146,f 147,f 148,f 149,f 150,f 151,f 152,f 153,f 154,f 155,f 156,f 157,f 158,f 159,f 160,f 161,f 162,f 163,f 164,f 165,f 166,f 167,f 168,f 169,f 170,f 171,f 172,f 173,f 174,f 175,f 176,f 177,f 178,f 179,f 180,f 181,f 182,f 183,f 184,f 185,f 186,f 187,f 188,f 189,f 190,f 191,f 192,f 193,f 194,f 195,f 196,f 197,f 198,f 199,f 200,f 201,f 202,f 203,f 204,f 205,f 206,f 207,f 208,f 209,f 210,f 211,f 212,f 213,f 214,f 215,f 216,f 217,f 218,f 219,f 220,f 221,f 222,f 223,f 224,f 225,f 226,f 227,f 228,f 229,f 230,f 231,f 232,f 233,f 234,f 235,f 236,f 237,f 238,f 239,f 240,f 241,f 242,f 243,f 244,f 245,f 246,f 247,f 248,f 249,f 250,f 251],defers:=[] })
  ?hAx ?assign ?body ?done ?stop
 case hI=>exact λ s W W' row hs hg hr=>⟨hs.1.grown hg hs.1.size (λ k e=>(hr k e).1),hs.2⟩
 case hIx=>exact λ cd s W W' row hs hg hr=>⟨hs.1,hs.2.1,hs.2.2.1.grown hg hs.2.2.1.size (λ k e=>Nat.le_trans Kx.size (hr k e).1),DJ hs.2.2.2.1 hg (λ r e=>(hr r e).2),DJ hs.2.2.2.2 hg (λ r e=>(hr r e).2)⟩
 case h0=>exact⟨Below.refl _ _,rfl⟩
 case hAx=>rintro x a' s W W' row ⟨g7,h1,h2⟩ hg hr;exact⟨g7,DJ h1 hg (λ r e=>(hr r e).2),h2⟩
 case assign=>
  rintro l pre x W K ⟨hi1,Gr⟩ hK;have hbn:=aB.new W 46 (bF x.1.1).toArray;have bbn:=ah W (.cells (bF x.1.1).toArray 46);have hK2:=hK { tmps:= #[f 0,f 1,f 2,f 3,aw g4,aw g5,f 6,aw W.heap.size,f 8,f 9,f 10,f 11,f 12,f 13,f 14,f 15,f 16,f 17,f 18,f 19,f 20,f 21,f 22,f 23,f 24,f 25,f 26,f 27,f 28,f 29,f 30,f 31,f 32,f 33,f 34,f 35,f 36,f 37,f 38,f 39,f 40,f 41,f 42,f 43,f 44,f 45,f 46,f 47,f 48,f 49,f 50,f 51,f 52,f 53,f 54,f 55,f 56,f 57,f 58,f 59,f 60,f 61,f 62,f 63,f 64,f 65,f 66,f 67,f 68,.func (.func 96) #[] #[aw gq],(.agg (bF x.1.1).toArray),f 71,f 72,f 73,f 74,f 75,f 76,f 77,f 78,f 79,f 80,f 81,f 82,f 83,f 84,f 85,f 86,f 87,f 88,f 89,f 90,f 91,f 92,f 93,f 94,f 95,f 96,f 97,f 98,f 99,f 100,f 101,f 102,f 103,f 104,f 105,f 106,f 107,f 108,f 109,f 110,f 111,f 112,f 113,f 114,f 115,f 116,f 117,f 118,f 119,f 120,f 121,f 122,f 123,f 124,f 125,f 126,f 127,f 128,f 129,f 130,f 131,f 132,f 133,f 134,f 135,f 136,f 137,f 138,f 139,f 140,f 141,f 142,f 143,f 144,f 145,f 146,f 147,f 148,f 149,f 150,f 151,f 152,f 153,f 154,f 155,f 156,f 157,f 158,f 159,f 160,f 161,f 162,f 163,f 164,f 165,f 166,f 167,f 168,f 169,f 170,f 171,f 172,f 173,f 174,f 175,f 176,f 177,f 178,f 179,f 180,f 181,f 182,f 183,f 184,f 185,f 186,f 187,f 188,f 189,f 190,f 191,f 192,f 193,f 194,f 195,f 196,f 197,f 198,f 199,f 200,f 201,f 202,f 203,f 204,f 205,f 206,f 207,f 208,f 209,f 210,f 211,f 212,f 213,f 214,f 215,f 216,f 217,f 218,f 219,f 220,f 221,f 222,f 223,f 224,f 225,f 226,f 227,f 228,f 229,f 230,f 231,f 232,f 233,f 234,f 235,f 236,f 237,f 238,f 239,f 240,f 241,f 242,f 243,f 244,f 245,f 246,f 247,f 248,f 249,f 250,f 251],defers:=[] } (W.alloc (.cells (bF x.1.1).toArray 46)) ((KeepsOthers.alloc _ _).from _) (Fr.below bbn) ⟨Below.trans hi1 (bbn.mono hi1.size),Gr⟩ ⟨_,hbn,rfl⟩
  clear hK hdone TM HD HS U8 hseq;unfold bF at*;simp only[QI];gi_wp2;exact hK2
 case body=>rintro l pre x a' W hl ⟨r,hr⟩ ⟨hi1,Gr⟩ ⟨g7,hb,rfl⟩ hlt;have ajB:=Tr.Zn x.1.2 x.1.1 w0 x.2.1 x.2.2 W (Below.trans Kx (hi1.mono Kx.size));have H4:=aa (hb4.later hi1);have H5:=aa (ID.later hi1);have HI1:=aa hi1;have HI2:=aa Gr;clear hdone TM HD HS U8 hseq hr hi1 Gr;unfold mz at ajB;open zdn in exact Zbw
 case done=>rintro D xs W hD rfl ⟨h1,h2⟩ h3;exact HD.ae D W h1 hD h3 h2
 case stop=>
  rintro D cd pre W hD Eo ⟨rfl,h1,h2⟩ h3;have hx:=HS.ae D W hD (by
   obtain⟨x,hx1,hx2⟩:=List.any_eq_true.1 h1
   exact List.any_eq_true.2 ⟨x,Eo.subset hx1,hx2⟩) h2 h3
  gi_wp2;exact hx
attribute [local go_sem] Oper.semAt_some
theorem zeA.KaZ(h:p:=by
 have x7:=cK.cell 7;simp only[Uaa] at y0 y1 y2 y3 y4 y5 y6 x7;clear hE q5 hO Az hP hb cK hb4 ID Ay hl4 hl5 key;simp only[bK,fA,Tryz.f28,Option.getD_some];refine wp_seq_k λ K hK=>?_
 have HK:=aa (show∀(D:Nat) (w':World),w0.heap.size<=D->q.all.any (λ t=>decide (32 < t.depth))=false->cP c w0 gp g2 (fp q L) g4 g5 D r w' u v [] ⟨[],[]⟩ hd [] [] [] [] [] []->∀T:Array Value,T.size=252->T.getD 1 undef=.slice c.cA c.cols.length c.cc->T.getD 2 undef=aw g2->T.getD 4 undef=aw g4->T.getD 5 undef=aw g5->T.getD 6 undef=aw gp->K { tmps:=T,defers:=dD D } w' from λ D w' h0 h1 h3 T a0 a1 a2 a3 a4 a5=>hK _ _ (KEY.ae D w' h0 h1 h3 T a0 a1 a2 a3 a4 a5));clear hK KEY;go_wp2_with fail;clear y0 y1 y2 y3 y4 y5 y6 x7;refine(aem q L w).mono ?_;rintro e w1 ⟨gq,rfl,Jg,zX,hb1⟩;obtain⟨LL,hLL,hseq⟩:=U7 oC.ae 3 Tq w1 gq Jg (Below.trans HB.ae (hb1.mono HB.ae.size));have zP:=aa hLL;have U8:=aa hseq;have eL:=aa hb1;clear Jg zX hb1 hLL hseq;go_wp2_with fail;have aqp:=λ(T:Array Value) hT e4 e5 e69 (Q2:Exit->Act->World->Prop) hd hs=>WY w0 w1 LL gq g4 g5 T hT e4 e5 e69 U8.ae (Below.trans HB.ae (eL.ae.mono HB.ae.size)) (L8.ae.later eL.ae) (vd.ae.later eL.ae) HL.ae.1 HL.ae.2.1 HL.ae.2.2 Q2 hd hs
 simp only[Rs,JM,bK,fA,Tryz.f28,Option.getD_some] at aqp;refine aqp _ ?_ ?_ ?_ ?_ _ ?_ ?_
 ·rfl
 ·rfl
 ·rfl
 ·rfl
 ·intro D W a1 a2 a3 a4;have nK:=Below.trans eL.ae (a1.mono eL.ae.size);exact HK.ae D W (Nat.le_trans HB.ae.size (Nat.le_trans eL.ae.size a2)) (by rw[<- zP.ae,any_map];exact a4) (jN.ae W D nK (Nat.le_trans eL.ae.size a2) a3) _ rfl rfl rfl rfl rfl rfl
 ·intro D W a0 a1 a2 a3;exact Q5.ae D _ W (Nat.le_trans HB.ae.size (Nat.le_trans eL.ae.size a0)) (by rw[<- zP.ae,any_map];exact a1) ⟨rfl,rfl,rfl⟩ a2 a3):p:=h
theorem zf3.Kbw(h:p:=by
 have key:∀(D:Nat) (w':World),w0.heap.size<=D->q.all.any (λ t=>decide (32 < t.depth))=false->cP c w0 gp g2 (fp q L) g4 g5 D r w' u v [] ⟨[],[]⟩ hd [] [] [] [] [] []->∀T:Array Value,T.size=252->T.getD 1 undef=.slice c.cA c.cols.length c.cc->T.getD 2 undef=aw g2->T.getD 4 undef=aw g4->T.getD 5 undef=aw g5->T.getD 6 undef=aw gp->(fA bK 4).wp Tryz.prog Q { tmps:=T,defers:=dD D } w':=λ D w' hDD hx hp T hT h1 h2 h4 h5 h6=>
  have hR:rS c.aK c.aL c.cols q=wW c.aK c.aL c.cols q:=if_neg (by rw[hx];decide)
  WW c w0 gp g2 g4 g5 D q L r u v hd T hT h1 h2 h4 h5 h6 (dD D) w' Q (Az.full hx) hp (λ er a W he=>hE D er a W hDD (hR.trans he)) (λ a W r' u' v' pZ s' vh yi yh yo ti th eD he ha hp=>hO D a W r' u' v' pZ s' vh yi yh yo ti th eD hDD (hR.trans he) ha hp)
 have Q5:=aa q5;have oC:=aa Az;have jN:=aa hP;simp only[bK,fA,Tryz.f28,Option.getD_some] at key;have KEY:=aa key;have HB:=aa hb;have fG:=aa cK;have L8:=aa hb4;have vd:=aa ID;have HL:=aa (And.intro Ay (And.intro hl4 hl5));unfold fp at cK;open zeA in exact Zcx):p:=h
theorem aen (c:PC)(w0:World)(gp g2 g4 g5:Nat)(q:Qy)(L:QL)(r:Rest)(u v:Value)(hd:List aX)(T:Array Value)(hT:T.size=252)
  (h1:T.getD 1 undef=.slice c.cA c.cols.length c.cc) (h2:T.getD 2 undef=aw g2) (h4:T.getD 4 undef=aw g4) (h5:T.getD 5 undef=aw g5) (h6:T.getD 6 undef=aw gp) (w:World) (Q:Exit->Act->World->Prop)
  (Az:DI c w0 q L hd)
  (hP:∀W D,aj w W->w.heap.size<=D->W.heap[D]?=some (.deferred (some []))->cP c w0 gp g2 (fp q L) g4 g5 D r W u v [] ⟨[],[]⟩ hd [] [] [] [] [] [])
  (hb:aj w0 w) (cK:aB w g2 27 (fp q L)) (hb4:aB w g4 72 #[.pointer none]) (ID:aB w g5 34 #[af 0]) (Ay:g4≠g5) (hl4:w0.heap.size<=g4) (hl5:w0.heap.size<=g5)
  (q5:∀D a W,w0.heap.size<=D->q.all.any (λ t=>decide (32 < t.depth))=true->qj a (dD D) g4 g5->ajA w0 g4 g5 W->W.heap[D]?=some (.deferred (some []))->Q .ret a W)
  (hE:∀D er a W,w0.heap.size<=D->rS c.aK c.aL c.cols q=.error er->er≠0->qj a (dD D) g4 g5->wT w0 g4 g5 D W->Q .ret a (jn W g4 g5 er))
  (hO:∀D a W r' u' v' pZ s' vh yi yh yo ti th eD,w0.heap.size<=D->rS c.aK c.aL c.cols q=.ok (ti,vh,th,eD,s')->qj a (dD D) g4 g5->cP c w0 gp g2 (fp q L) g4 g5 D r' W u' v' pZ s' ((if q.items=[] then hd else [])++vh) yi yh yo ti th eD->Q .ret a (jx W g4 g5 gp)):
  (fA bK 3).wp Tryz.prog Q { tmps:=T,defers:=[] } w:=by
 open zf3 in exact Zea
end Go.Proofs.YtndgjggokjickaaGreatDoor
