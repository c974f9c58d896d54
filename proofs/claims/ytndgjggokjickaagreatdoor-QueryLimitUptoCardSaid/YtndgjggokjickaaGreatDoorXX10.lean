/- Parts of the proof. -/
import Derived.Test.YtndgjggokjickaaGreatDoorXX9
namespace Go.Proofs.YtndgjggokjickaaGreatDoor
variable{p:Prop}
set_option maxHeartbeats 90000000
set_option maxRecDepth 100000
open Go.ChangeShapes Go.WideShapes Go.ChangeAt Go.RowKit List
set_option linter.unusedVariables false
set_option linter.unusedSimpArgs false
def Dm (items order:List Tr)(over:List aX)(r:List Val):Except Int fk:=match bB over r (items++order)with
 | .error e=> .error e
 | .ok l=> .ok ⟨if items=[] then r else l.take items.length,l.drop items.length⟩
def wR (items order:List Tr)(over:List aX)(rs:List aW):List fk:=rs.filterMap λ r=>ur (Dm items order over r.l)
variable{order:List Tr}{over:List aX}{rs:List aW}{k:Nat}
theorem Wh{items:List Tr}   (h:k < rs.length):wR items order over (rs.take (k+1))=wR items order over (rs.take k)++(match ur (Dm items order over rs[k].l)with | some x=> [x] | none=> []):=by
 have e:rs.take (k+1)=rs.take k++ [rs[k]]:=by rw[take_add_one,getElem?_eq_getElem h];rfl
 unfold wR;rw[e,filterMap_append];congr 1;rw[filterMap_cons,filterMap_nil];cases ur (Dm items order over rs[k].l)<;> rfl
variable{A:Option Addr}{n:Nat}{a:Addr}
theorem MO{c:Nat} (h:eQ A c n=some a):∃b,A=some b/\b.block=a.block:=by
 unfold eQ at h;split at h
 ·exact⟨a,h,rfl⟩
 ·cases A with
  | none=>cases h
  | some b=>simp only[Option.map_some,Option.some.injEq] at h;exact⟨b,rfl,by rw[<- h,vq]⟩
variable{w:World}{l:List Val}
theorem bM.drop(h:bM w A l)(n c:Nat)(hc:l.length<=c):bM w (eQ A c n) (l.drop n):=
 ⟨h.rv.SX n c hc,λ a ha=>by obtain⟨b,e1,e2⟩:=MO ha;obtain⟨cur,xX⟩:=h.ty b e1;exact⟨cur,e2▸xX⟩⟩
structure MP (w:World) (gp:Nat) (items order:List Tr) (over:List aX) (yi yo:List Ex) (IA:Option Addr) (ic:Nat) (DA:Option Addr) (dc:Nat) (OA:Option Addr):Prop where
 lt:gp < w.heap.size
 c13:w.cell? ⟨gp,13,none⟩=some (.slice IA yi.length ic)
 c15:w.cell? ⟨gp,15,none⟩=some (.slice DA yo.length dc)
 ri:RE w w.heap.size IA yi
 ti:Tr.aO w (Old w) items yi
 ro:RE w w.heap.size DA yo
 eD:Tr.aO w (Old w) order yo
 rc:RC w w.heap.size OA over
variable{w':World}{gp:Nat}{yi yo:List Ex}{IA:Option Addr}{ic:Nat}{DA:Option Addr}{dc:Nat}{OA:Option Addr}
theorem MP.later{items:List Tr}       (h:MP w gp items order over yi yo IA ic DA dc OA)(hb:aj w w'):MP w' gp items order over yi yo IA ic DA dc OA:=
 ⟨Nat.lt_of_lt_of_le h.lt hb.size,(hb.cell (p:=⟨gp,13,none⟩) h.lt).trans h.c13,(hb.cell (p:=⟨gp,15,none⟩) h.lt).trans h.c15,h.ri.later hb,Tr.aO.later h.ti hb,h.ro.later hb,Tr.aO.later h.eD hb,h.rc.later hb⟩
def aiJ (gp:Nat)(IA:Option Addr)(ni ic:Nat)(DA:Option Addr)(no dc:Nat)(CA:Option Addr)(cn cc:Nat)(RA:Option Addr)(rn rc:Nat)(E:List Ex)(B0:Nat)(res:Except Int (List Val)):Nat->World->Value->Prop
 | 0,_,v=>v=aw gp
 | 1,_,v=>v=aw gp
 | 2,_,v=>v=bh gp 13
 | 3,_,v=>v=.slice IA ni ic
 | 4,_,v=>v=aw gp
 | 5,_,v=>v=aw gp
 | 6,_,v=>v=bh gp 15
 | 7,_,v=>v=.slice DA no dc
 | 8,w,v=>∃gB:Nat,v=aH gB 2 2/\aB w gB 23 #[.slice IA ni ic,.slice DA no dc]
 | 9,w,v=>∃v7:Value,v=v7/\uM w B0 v7 E
 | 10,_,v=>v=.slice CA cn cc
 | 11,_,v=>v=.slice RA rn rc
 | 12,w,v=>∃x0 x1:Value,v=.tuple #[x0,x1]/\nH res w B0 x0 x1
 | 13,w,v=>∃x0 x1:Value,v=.tuple #[x0,x1]/\nH res w B0 x0 x1
 | 14,w,v=>∃x0 x1:Value,v=x0/\nH res w B0 x0 x1
 | 15,_,v=>v=af (np res)
 | 16,w,v=>∃x0 x1:Value,v=x0/\nH res w B0 x0 x1
 | _,_,_=>False
theorem QM (gp:Nat)(IA:Option Addr)(ni ic:Nat)(DA:Option Addr)(no dc:Nat)(CA:Option Addr)(cn cc:Nat)(RA:Option Addr)(rn rc:Nat)(E:List Ex)(B0:Nat)(res:Except Int (List Val)):∀i w w' v,aiJ gp IA ni ic DA no dc CA cn cc RA rn rc E B0 res i w v->ai w w'->aiJ gp IA ni ic DA no dc CA cn cc RA rn rc E B0 res i w' v:=by
 intro i w w' v h hl
 match i with
 | 0 | 1 | 2 | 3 | 4 | 5 | 6 | 7 | 10 | 11 | 15=>exact h
 | 8=>obtain⟨gB,h1,f0⟩:=h;exact⟨gB,h1,f0.later hl⟩
 | 9=>obtain⟨v7,h1,f0⟩:=h;exact⟨v7,h1,f0.later hl⟩
 | 12=>exact Zb3
 | 13=>exact Zb3
 | 14=>exact Zb3
 | 16=>exact Zb3
 | n+17=>exact h
def aiK (gp:Nat)(IA:Option Addr)(ni ic:Nat)(XA:Option Addr)(xn xc B0:Nat):Nat->World->Value->Prop
 | 0,_,v=>v=.slice XA xn xc
 | 1,_,v=>v=aw gp
 | 2,_,v=>v=aw gp
 | 3,_,v=>v=bh gp 13
 | 4,_,v=>v=.slice IA ni ic
 | 5,_,v=>v=af ni
 | 6,_,v=>v=aw gp
 | 7,_,v=>v=aw gp
 | 8,_,v=>v=bh gp 13
 | 9,_,v=>v=.slice IA ni ic
 | 10,_,v=>v=af ni
 | 11,_,v=>v=.slice XA ni ni
 | 12,_,v=>v=.slice XA xn xc
 | 13,_,v=>v=aw gp
 | 14,_,v=>v=aw gp
 | 15,_,v=>v=bh gp 13
 | 16,_,v=>v=.slice IA ni ic
 | 17,_,v=>v=af ni
 | 18,_,v=>v=.slice (eQ XA xc ni) (xn - ni) (xc - ni)
 | 19,_,v=>v=.agg #[.slice XA ni ni,.slice (eQ XA xc ni) (xn - ni) (xc - ni)]
 | 20,w,v=>∃gx:Nat,v=aw gx/\aB w gx 91 #[az,az]/\B0<=gx
 | _,_,_=>False
theorem QN (gp:Nat)(IA:Option Addr)(ni ic:Nat)(XA:Option Addr)(xn xc B0:Nat):∀i w w' v,aiK gp IA ni ic XA xn xc B0 i w v->ai w w'->aiK gp IA ni ic XA xn xc B0 i w' v:=by
 intro i w w' v h hl
 match i with
 | 0 | 1 | 2 | 3 | 4 | 5 | 6 | 7 | 8 | 9 | 10 | 11 | 12 | 13 | 14 | 15 | 16 | 17 | 18 | 19=>exact h
 | 20=>obtain⟨gx,h1,f0,f1⟩:=h;exact⟨gx,h1,f0.later hl,f1⟩
 | n+21=>exact h
def aiL (gb:Nat)(le:Int):Nat->World->Value->Prop
 | 0,_,v=>v=.agg #[az,az,af 0]
 | 1,_,v=>v=aw gb
 | 2,_,v=>v=af le
 | 3,_,v=>v=undef
 | 4,_,v=>v=af le
 | _,_,_=>False
theorem QO (gb:Nat)(le:Int):∀i w w' v,aiL gb le i w v->ai w w'->aiL gb le i w' v:=by exact ZgL
variable{g:Nat}{t:TypeId}
theorem pO{a b c:Value}(h:aB w g t #[a,b,c]):ai w (((w.setCell ⟨g,0,none⟩ a).setCell ⟨g,1,none⟩ b).setCell ⟨g,2,none⟩ c):=by
 have h2:aB (((w.setCell ⟨g,0,none⟩ a).setCell ⟨g,1,none⟩ b).setCell ⟨g,2,none⟩ c) g t #[a,b,c]:=((h.aT 0 a).aT 1 b).aT 2 c;refine⟨rfl,rfl,rfl,by simp,λ k hk=>?_⟩;by_cases e:k=g
 ·subst e;exact(show _=_ from h2).trans (show _=_ from h).symm
 ·rw[Below.heap_setCell _ ⟨g,2,none⟩ _ k e,Below.heap_setCell _ ⟨g,1,none⟩ _ k e,Below.heap_setCell _ ⟨g,0,none⟩ _ k e]
theorem zdY.KaK(h:p:=by exact JZ (w':=((w3.setCell ⟨g6,0,none⟩ (az)).setCell ⟨g6,1,none⟩ (az)).setCell ⟨g6,2,none⟩ (af 0)) (by simp[go_sem,h0,h1,z0,z1,x2,f0,f1,f2];done) ⟨pO HX,rfl⟩):p:=h
theorem zhN.Kb7(h:p:=by
 have apr:=aa (show∀x∈dJ,bM W3 x.1.A x.1.l/\bM W3 x.2.A x.2.l/\x.1.l.length<=1000/\x.2.l.length=order.length from λ x hx=>by obtain⟨f1,f2,q3⟩:=aiM.ae x hx;exact⟨f1.later hL,f2.later hL,q3⟩);have aps:=aa (uI.ae.later hL);have PY:=aa afP;have HNX:=aa (show u13.ownBlock≠some je from λ e=>by have h1:=(zW.ae.lt e).1;have h2:=P3;have h3:=eL.ae;omega);have J0:=aa (show w.heap.size<=je from Nat.le_trans rK.ae.size (by rw[<- eL.ae];exact P3));clear hL rK zW J3 aiM uI afP P3 eL HEW;have gx0:=PY.ae.cell 0;have gx1:=PY.ae.cell 1;have gf0:=PY.ae.frozen 0;have gf1:=PY.ae.frozen 1;simp only[Uaa] at gx0 gx1;go_upto_region 23 with fail;clear gx0 gx1 gf0 gf1;have g7:W3.grownBy ((W3.setCell ⟨je,0,none⟩ (.slice XA gn gn)).setCell ⟨je,1,none⟩ (.slice (eQ XA xc gn) (xn - gn) (xc - gn))) (some je):=aC (aC (aR (Below.refl _ _)) _ _) _ _;have SV:=aa (show aB ((W3.setCell ⟨je,0,none⟩ (.slice XA gn gn)).setCell ⟨je,1,none⟩ (.slice (eQ XA xc gn) (xn - gn) (xc - gn))) je 91 #[.slice XA gn gn,.slice (eQ XA xc gn) (xn - gn) (xc - gn)] from(PY.ae.aT 0 _).aT 1 _);generalize (W3.setCell ⟨je,0,none⟩ (.slice XA gn gn)).setCell ⟨je,1,none⟩ (.slice (eQ XA xc gn) (xn - gn) (xc - gn))=W7 at*;have fH:∀ {A:Option Addr} {l:List Val},bM W3 A l->bM W7 A l:=λ h=>h.keep g7.size λ b cur hc=>g7.block b hc.lt λ e=>by injection e with e;subst e;exact kS hc PY.ae Tab rfl
 have Gl:=aa (dQ LY.ae g7 J0.ae);have wL:=aa (Mg.ae.grown g7 HNX.ae);have Ew:=aa (DR.ae.grown g7 (λ e=>by injection e with e;exact kS DR.ae PY.ae Tab e));have Wj:=aa (show∀x∈dJ,bM W7 x.1.A x.1.l/\bM W7 x.2.A x.2.l/\x.1.l.length<=1000/\x.2.l.length=order.length from λ x hx=>by obtain⟨f1,f2,q3⟩:=apr.ae x hx;exact⟨fH f1,fH f2,q3⟩);have adm:=aa (fH aps.ae);have apt:=aa (HF.ae.later Gl.ae);have c13:=apt.ae.c13;rw[<- IH.ae] at c13;have HDL:=aa (show(l.drop gn).length=xn - gn by rw[length_drop,ox.ae]);have qE:=aa (show(l.take gn).length=gn by rw[length_take];have:=xN.ae;have:=ox.ae;omega);have Xi:=aa (show(l.drop gn).length=order.length by rw[length_drop,Kx.ae,HYO.ae];omega);clear g7 fH LY Mg DR apr aps PY;have avl:=HNX;clear HNX;by_cases Lw:gn=0
 ·have t3:((gn:Int)==0)=true:=by simp[Lw]
  have HIT:=aa (show items=[] from eq_nil_of_length_eq_zero (by rw[HYI.ae,Lw]));have HZ:=aa Lw;clear Lw;go_wp2_with fail;clear c13;refine(Cl r.A r.c r.l W7 ((avi.ae.below Gl.ae).more Gl.ae.size) Qj.ae.1).mono ?_;rintro e w8 ⟨rv,rfl,vd,b8⟩;obtain⟨RA2,rc2,avm,_,hk2⟩:=Jc vd;subst avm;have hx8:=SV.ae.later b8;have z0:=hx8.cell 0;have f0:=hx8.frozen 0;simp only[Uaa] at z0;go_upto_region 25 with fail;clear z0 f0;have g9:W7.grownBy (w8.setCell ⟨je,0,none⟩ (.slice RA2 r.l.length rc2)) (some je):=aC (aR b8) _ _;have dV:aB (w8.setCell ⟨je,0,none⟩ (.slice RA2 r.l.length rc2)) je 91 #[.slice RA2 r.l.length rc2,.slice (eQ XA xc gn) (xn - gn) (xc - gn)]:=hx8.aT 0 _;have hk9:bM (w8.setCell ⟨je,0,none⟩ (.slice RA2 r.l.length rc2)) RA2 r.l:=hk2.keep (by rw[World.size_setCell];exact Nat.le_refl _) λ b cur hc=>Below.heap_setCell _ ⟨je,0,none⟩ _ b λ e=>by have e:b=je:=e;subst e;exact kS hc hx8 Tab rfl
  have Xm:u13.ownBlock≠some je:=avl.ae;generalize w8.setCell ⟨je,0,none⟩ (.slice RA2 r.l.length rc2)=W9 at*;have fH:∀ {A:Option Addr} {l:List Val},bM W7 A l->bM W9 A l:=λ h=>h.keep g9.size λ b cur hc=>g9.block b hc.lt λ e=>by injection e with e;subst e;exact kS hc SV.ae Tab rfl
  have Gl:=aa (dQ Gl.ae g9 J0.ae);have wL:=aa (wL.ae.grown g9 Xm);have Ew:=aa (Ew.ae.grown g9 (λ e=>by injection e with e;exact kS Ew.ae SV.ae Tab e));have Wj:=aa (show∀x∈dJ,bM W9 x.1.A x.1.l/\bM W9 x.2.A x.2.l/\x.1.l.length<=1000/\x.2.l.length=order.length from λ x hx=>by obtain⟨f1,f2,q3⟩:=Wj.ae x hx;exact⟨fH f1,fH f2,q3⟩);obtain⟨nl,hnl⟩:∃nl:aW×aW,nl=(⟨RA2,r.l,rc2⟩,⟨eQ XA xc gn,l.drop gn,xc - gn⟩):=⟨_,rfl⟩;have HNL:=aa (show(eN nl).toArray= #[.slice RA2 r.l.length rc2,.slice (eQ XA xc gn) (xn - gn) (xc - gn)] by rw[hnl];unfold eN;dsimp only;rw[HDL.ae]);have PK:=aa (show MN nl=⟨if items=[] then r.l else l.take items.length,l.drop items.length⟩ by rw[hnl,if_pos HIT.ae,HYI.ae];rfl);have HN8:=aa (show bM W9 nl.1.A nl.1.l/\bM W9 nl.2.A nl.2.l/\nl.1.l.length<=1000/\nl.2.l.length=order.length by
   rw[hnl]
   exact⟨hk9,(fH adm.ae).drop gn xc Qw.ae,Qj.ae.1,Xi.ae⟩)
  have z0:=dV.cell 0;have z1:=dV.cell 1;simp only[Uaa] at z0 z1;clear hnl hk9 dV hx8 hk2 vd b8 g9 Xm fH SV adm apt;have bN:=ah W9 (.cells #[.slice RA2 r.l.length rc2,.slice (eQ XA xc gn) (xn - gn) (xc - gn)] 91);have hG:=aB.new W9 91 #[.slice RA2 r.l.length rc2,.slice (eQ XA xc gn) (xn - gn) (xc - gn)];have mG:=aa (wL.ae.later bN);have Jo:=aa (Ew.ae.later bN);have Qz:=aa (Below.trans Gl.ae (bN.mono Gl.ae.size));have aiO:=aa (show∀x∈dJ,bM _ x.1.A x.1.l/\bM _ x.2.A x.2.l/\x.1.l.length<=1000/\x.2.l.length=order.length from λ x hx=>by obtain⟨f1,f2,q3⟩:=Wj.ae x hx;exact⟨f1.later bN,f2.later bN,q3⟩);have HN1:=aa (HN8.ae.1.later bN);have HN2:=aa (HN8.ae.2.1.later bN);have Gc:=aa hG;have hbase:=Qz.ae.size;have hlk:=zL.ae;clear bN hG wL Ew Gl Wj;go_wp2_with (first
   |(at_builtin
     refine aU (f:=eN) rfl (.tmp 133) (.tmp 135) 85 rfl _ 48 Tryz.underlying85 Tm rfl WC nl rfl (by simp[eN,Value.oneCell']) rfl mG.ae W9.heap.size rfl (by rw[HNL.ae];exact Gc.ae) WC WC hbase ?_
     intro v4 w4 o4 g4
     have O4:=aa o4
     have B4:=aa (Jo.ae.ku mG.ae Tab g4)
     have RW4:=aa (show∀x∈dJ,bM w4 x.1.A x.1.l/\bM w4 x.2.A x.2.l/\x.1.l.length<=1000/\x.2.l.length=order.length from λ x hx=>by obtain⟨f1,f2,q3⟩:=aiO.ae x hx;exact⟨f1.own mG.ae Tab g4,f2.own mG.ae Tab g4,q3⟩)
     have N41:=aa (HN1.ae.own mG.ae Tab g4)
     have N42:=aa (HN2.ae.own mG.ae Tab g4)
     have Ly:=aa (Below.trans Qz.ae (br mG.ae g4 hbase))
     clear o4 g4))
  exact ZbY
 ·have t3:((gn:Int)==0)=false:=by simp[Lw]
  have HIT:=aa (show items≠ [] from λ e=>Lw (by rw[<- HYI.ae,e];rfl));clear Lw;obtain⟨nl,hnl⟩:∃nl:aW×aW,nl=(⟨XA,l.take gn,gn⟩,⟨eQ XA xc gn,l.drop gn,xc - gn⟩):=⟨_,rfl⟩;have HNL:=aa (show(eN nl).toArray= #[.slice XA gn gn,.slice (eQ XA xc gn) (xn - gn) (xc - gn)] by rw[hnl];unfold eN;dsimp only;rw[qE.ae,HDL.ae]);have PK:=aa (show MN nl=⟨if items=[] then r.l else l.take items.length,l.drop items.length⟩ by rw[hnl,if_neg HIT.ae,HYI.ae];rfl);have HN8:=aa (show bM W7 nl.1.A nl.1.l/\bM W7 nl.2.A nl.2.l/\nl.1.l.length<=1000/\nl.2.l.length=order.length by
   rw[hnl]
   exact⟨adm.ae.take gn,adm.ae.drop gn xc Qw.ae,by show(l.take gn).length<=1000;rw[qE.ae,<- HYI.ae];exact Xx.ae HIT.ae,Xi.ae⟩)
  have z0:=SV.ae.cell 0;have z1:=SV.ae.cell 1;simp only[Uaa] at z0 z1;clear hnl;go_upto_region 25 with fail
  clear c13;have bN:=ah W7 (.cells #[.slice XA gn gn,.slice (eQ XA xc gn) (xn - gn) (xc - gn)] 91);have hG:=aB.new W7 91 #[.slice XA gn gn,.slice (eQ XA xc gn) (xn - gn) (xc - gn)];have mG:=aa (wL.ae.later bN);have Jo:=aa (Ew.ae.later bN);have Qz:=aa (Below.trans Gl.ae (bN.mono Gl.ae.size));have aiO:=aa (show∀x∈dJ,bM _ x.1.A x.1.l/\bM _ x.2.A x.2.l/\x.1.l.length<=1000/\x.2.l.length=order.length from λ x hx=>by obtain⟨f1,f2,q3⟩:=Wj.ae x hx;exact⟨f1.later bN,f2.later bN,q3⟩);have HN1:=aa (HN8.ae.1.later bN);have HN2:=aa (HN8.ae.2.1.later bN);have Gc:=aa hG;have hbase:=Qz.ae.size;have hlk:=zL.ae;clear bN hG wL Ew Gl Wj;go_wp2_with (first
   |(at_builtin
     refine aU (f:=eN) rfl (.tmp 133) (.tmp 135) 85 rfl _ 48 Tryz.underlying85 Tm rfl WC nl rfl (by simp[eN,Value.oneCell']) rfl mG.ae W7.heap.size rfl (by rw[HNL.ae];exact Gc.ae) WC WC hbase ?_
     intro v4 w4 o4 g4
     have O4:=aa o4
     have B4:=aa (Jo.ae.ku mG.ae Tab g4)
     have RW4:=aa (show∀x∈dJ,bM w4 x.1.A x.1.l/\bM w4 x.2.A x.2.l/\x.1.l.length<=1000/\x.2.l.length=order.length from λ x hx=>by obtain⟨f1,f2,q3⟩:=aiO.ae x hx;exact⟨f1.own mG.ae Tab g4,f2.own mG.ae Tab g4,q3⟩)
     have N41:=aa (HN1.ae.own mG.ae Tab g4)
     have N42:=aa (HN2.ae.own mG.ae Tab g4)
     have Ly:=aa (Below.trans Qz.ae (br mG.ae g4 hbase))
     clear o4 g4))
  exact ZbY):p:=h
theorem zh5.Kce(h:p:=by
 have hln:l.length=gn+no:=by rw[hlen,length_append,HYI.ae,HYO.ae]
 have Kx:=aa hln;have xN:=aa (show gn<=l.length by omega);have HXC:=aa (show gn<=xc by omega);have Qw:=aa hxl;have HEW:=aa (HF.ae.later rK.ae);obtain⟨xn,DO⟩:∃xn,xn=l.length:=⟨_,rfl⟩;rw[<- DO] at xN ⊢;have ox:=aa DO;obtain⟨B1,Kd⟩:∃B1,B1=w5.heap.size:=⟨_,rfl⟩;have eL:=aa Kd;clear E8 hln hxl DO KK hlen Kd;go_upto_region 22 with fail;refine bC 21 (aiK gp IA gn ic XA xn xc B1) (QN _ _ _ _ _ _ _ _) Taa Taa Taa ?_ ?_
 ·simp only[take_succ_cons,take_zero];refine⟨Zaa,Zaa,Zaa,Zaa,Zd3,Zaa,Zaa,Zaa,Zaa,Zd3,Zaa,Zdi,Zaa,Zaa,Zaa,Zaa,Zd3,Zaa,ZfW,ZdZ,?_,trivial⟩
  ·intro ρ w3 hc hL hr;exact aq (v:=aw w3.heap.size) (w':=w3.alloc (.cells #[az,az] 91)) Tbj ⟨ah _ _,_,rfl,aB.new _ _ _,by rw[eL.ae];exact hL.size⟩
 intro W3 hL;simp only[Uab];rintro a0 - a1 - a2 - a3 - a4 - a5 - a6 - a7 - a8 - a9 - FA - F8 - a12 - a13 - a14 - a15 - a16 - a17 - a18 - _ rfl a20 ⟨je,rfl,afP,P3⟩;open zhN in exact ZfV):p:=h
theorem zgk.Kby(h:p:=by
 go_wp2_with fail;go_loopw [13,81] (λ lv i wr=>∃(k:Nat) (dJ:List (aW×aW)),k<=zs.length/\i=af k/\aI eN 91 2 wr w.heap.size lv dJ/\(∀x∈dJ,bM wr x.1.A x.1.l/\bM wr x.2.A x.2.l/\x.1.l.length<=1000/\x.2.l.length=order.length)/\dJ.map MN=wR items order over (zs.take k)/\dJ.length<=k/\aB wr gb 84 #[af (dZ over (items++order) (zs.take k))]/\aj w wr) (λ _ i _=>zs.length - (intOf i).toNat);case atStart=>exact⟨0,[],Nat.zero_le _,rfl,aI.nil,(λ x hx=>by cases hx),rfl,Nat.le_refl _,J1.ae,eL.ae⟩
 case round=>
  clear eL J1;obtain⟨k,dJ,hkr,rfl,Xy,hRW,hLS,Ht,hGB,hB⟩:=hrel;have JP:=aa Xy;have ID:=aa hRW;have HP:=aa hLS;have zL:=aa Ht;have wI:=aa hGB;have HB:=aa hB;have hk9:k<=301:=by have:=HLEN.ae;omega
  clear Xy hRW hLS Ht hGB hB;by_cases hlt:k < zs.length
  ·obtain⟨b,off,rfl,kF,hcell,vd⟩:=(HFN.ae.below HB.ae).at_ hlt;have AZ:=aa (vd.more HB.ae.size);have Qj:=aa (aie.ae zs[k] (getElem_mem hlt));have avi:=aa (show RV w w.heap.size zs[k].A zs[k].l from by obtain⟨_,_,_,_,_,h⟩:=HFN.ae.at_ hlt;exact h);have J2:=aa (CW (cols:=over) (ts:=items++order) hlt).2;have zh:=aa (Wh (items:=items) (order:=order) (over:=over) hlt);generalize zs[k]=r at*;generalize dZ over (items++order) (zs.take k)=FC at*;generalize wR items order over (zs.take k)=ls at*;obtain⟨res,hres⟩:∃res,res=bB over r.l (items++order):=⟨_,rfl⟩;rw[<- hres] at J2;have jH:=aa hres.symm;have oJ:=aa (HF.ae.later HB.ae);obtain⟨E,hE⟩:∃E,E=yi++yo:=⟨_,rfl⟩;have pX:=aa hE;obtain⟨B0,hB0⟩:∃B0,B0=wr.heap.size:=⟨_,rfl⟩;have Bz:=aa hB0;clear kF vd hres hE hB0;go_upto_region 20 with fail;clear hcell;refine bC 17 (aiJ gp IA gn ic DA no dc OA over.length oc r.A r.l.length r.c E B0 res) (QM _ _ _ _ _ _ _ _ _ _ _ _ _ _ _ _) Taa Taa Taa ?_ ?_
   ·simp only[take_succ_cons,take_zero];refine⟨Zaa,Zaa,Zaa,?_,Zaa,Zaa,Zaa,?_,?_,?_,Zaa,Zaa,?_,?_,?_,?_,?_,trivial⟩
    ·intro ρ w3 hc hL hr;have h0:_=_:=hr.1;have c0:=(oJ.ae.later hL).c13;exact ZbR
    ·intro ρ w3 hc hL hr;have h0:_=_:=hr.1;have c0:=(oJ.ae.later hL).c15;exact aq (w':=w3) (by simp[go_sem,h0,c0,<- HNO.ae];done) ⟨ai.refl _,rfl⟩
    ·intro ρ w3 hc hL hr;have h0:_=_:=hr.1;have h1:_=_:=hr.2.1;exact aq (v:=aH w3.heap.size 2 2) (w':=w3.alloc (.cells #[.slice IA gn ic,.slice DA no dc] 23)) Taz ⟨ah _ _,_,rfl,aB.new _ _ _⟩
    ·intro ρ w3 hc hL hr;obtain⟨gB0,h0,cJ⟩:∃gB:Nat,ρ (.tmp 94)=aH gB 2 2/\aB w3 gB 23 #[.slice IA gn ic,.slice DA no dc]:=hr.1;have e1:=hc.func 35;refine bj (f:=35) (args:= #[aH gB0 2 2]) (w':=w3) TaA ?_;refine(uz (some ⟨gB0,0,none⟩) 2 [⟨IA,ic,yi⟩,⟨DA,dc,yo⟩] w3 Tad (by simpa [lC] using Uy.ae) ?_).mono ?_
     ·refine⟨gB0,0,rfl,cJ.lt,λ i x hx=>?_⟩
      match i,hx with
      | 0,hx=>simp at hx;subst hx;refine⟨?_,(oJ.ae.later hL).ri⟩;exact ZfE
      | 1,hx=>simp at hx;subst hx;refine⟨?_,(oJ.ae.later hL).ro⟩;have cb:=cJ.cell 1;simp only[Uaa] at cb;rw[Nat.zero_add,cb,HNO.ae]
      | n+2,hx=>simp at hx
     ·exact ZdW
    ·intro ρ w3 hc hL hr;obtain⟨v70,h0,cJ⟩:∃v7:Value,ρ (.tmp 95)=v7/\uM w3 B0 v7 E:=hr.1;have h1:_=_:=hr.2.1;have h2:_=_:=hr.2.2.1;obtain⟨EA,ec,he,Gs⟩:=rP (show aI bH 46 7 w3 B0 v70 E from cJ);rw[pX.ae] at he Gs;subst he;have e1:=hc.func 34;refine bj (f:=34) (args:= #[.slice EA (yi++yo).length ec,.slice OA over.length oc,.slice r.A r.l.length r.c]) (w':=w3) (by simp[go_sem,e1,h0,h1,h2];done) ?_;refine(Gf over OA oc r.l r.A r.c (items++order) (yi++yo) EA ec w3 VC.ae (by have:=Qj.ae.1;omega) Qj.ae.2 gh.ae (Tr.all_append (oJ.ae.later hL).ti (oJ.ae.later hL).eD) LE.ae Gs (oJ.ae.later hL).rc (AZ.ae.later hL)).mono ?_;exact ZcL
    ·intro ρ w3 hc hL hr;obtain⟨VI,VJ,h0,cJ⟩:∃x0 x1:Value,ρ (.tmp 98)=.tuple #[x0,x1]/\nH res w3 B0 x0 x1:=hr.1;exact Zf8
    ·intro ρ w3 hc hL hr;obtain⟨VI,VJ,h0,cJ⟩:∃x0 x1:Value,ρ (.tmp 85)=.tuple #[x0,x1]/\nH res w3 B0 x0 x1:=hr.1;exact Zc5
    ·intro ρ w3 hc hL hr;obtain⟨VI,VJ,h0,cJ⟩:∃x0 x1:Value,ρ (.tmp 85)=.tuple #[x0,x1]/\nH res w3 B0 x0 x1:=hr.1;exact Zgj
    ·intro ρ w3 hc hL hr;obtain⟨VI,VJ,h0,cJ⟩:∃x0 x1:Value,ρ (.tmp 99)=x0/\nH res w3 B0 x0 x1:=hr.1;exact Zc5
   intro W5 hL;simp only[Uab];rintro a0 - a1 - a2 - a3 - a4 - a5 - a6 - a7 - a8 - a9 - FA - F8 - a12 - a13 - a14 - _ rfl a16 ⟨ayJ,ayK,rfl,afO⟩;simp only[bE,Act.put,Uac];have oB:=aa (Below.trans HB.ae (hL.mono HB.ae.size));have Aa:=aa (wI.ae.later hL);have Qt:=aa (JP.ae.later hL);have apq:=aa (show∀x∈dJ,bM W5 x.1.A x.1.l/\bM W5 x.2.A x.2.l/\x.1.l.length<=1000/\x.2.l.length=order.length from λ x hx=>by obtain⟨f1,f2,q3⟩:=ID.ae x hx;exact⟨f1.later hL,f2.later hL,q3⟩);have avj:=aa (AZ.ae.later hL);have HWB:=aa afO;have HBL:=aa (show w.heap.size<=B0 by rw[Bz.ae];exact HB.ae.size);clear HB wI JP ID hL afO AZ oJ Bz;go_wp2_with fail;refine(vS gb FC (np res) _ Aa.ae).mono ?_;rintro e w5 ⟨rfl,Il,IY⟩;have Qv:=aa Il;have rK:=aa (dQ oB.ae IY (by rw[mF.ae];exact Nat.le_refl _));have zW:=aa (Qt.ae.grown IY (Qt.ae.other Aa.ae Tab));have fH:∀ {A:Option Addr} {l:List Val},bM W5 A l->bM w5 A l:=λ h=>h.keep IY.size λ b cur hc=>IY.block b hc.lt λ e=>by injection e with e;subst e;exact kS hc Aa.ae Tab rfl
   have aiM:=aa (show∀x∈dJ,bM w5 x.1.A x.1.l/\bM w5 x.2.A x.2.l/\x.1.l.length<=1000/\x.2.l.length=order.length from λ x hx=>by obtain⟨f1,f2,q3⟩:=apq.ae x hx;exact⟨fH f1,fH f2,q3⟩);have Aw:=aa (show∀l,res=.ok l->aI aV 44 3 w5 B0 a16 l from λ l hl=>by
    have h1:=HWB.ae
    rw[hl] at h1
    exact h1.2.grown IY (h1.2.other Aa.ae Tab))
   clear Il IY oB Aa Qt apq HWB fH avj
   cases res with
   | error er=>
     have hne:=Gu jH.ae;have t1:(np (.error er)==0)=false:=by show(er==0)=false;simp[hne]
     have qC:=aa J2.ae;have Ey:=aa (show ur (Dm items order over r.l)=none by unfold Dm;rw[jH.ae];rfl);clear hne Aw;go_wp2_with fail;go_roundw
     case rel=>
      refine⟨k+1,dJ,hlt,by go_num,zW.ae,aiM.ae,?_,Nat.le_succ_of_le zL.ae,?_,rK.ae⟩
      ·rw[zh.ae,Ey.ae];simpa using HP.ae
      ·rw[qC.ae];exact Qv.ae
     case measure=>exact Za1
   | ok l=>have qC:=aa (show dZ over (items++order) (zs.take (k+1))=tx FC 0 from J2.ae);have Ey:=aa (show ur (Dm items order over r.l)=some ⟨if items=[] then r.l else l.take items.length,l.drop items.length⟩ by unfold Dm;rw[jH.ae];rfl);have hlen:=CV jH.ae;open zh5 in exact Zgq
  ·have fH:k=zs.length:=by omega
   subst fH;have HTT:=aa (show zs.take zs.length=zs from take_length);rw[HTT.ae] at HP wI;obtain⟨LA,lc,hlv,_⟩:=JP.ae.reads;subst hlv;go_wp2_with fail;refine II.ae _ _ ?_;clear II;refine wp_seq_k λ K3 hK3=>?_
   have CI:=aa hK3;clear hK3;have d0:=wI.ae.cell 0;simp only[getElem?_toArray,getElem?_cons_zero] at d0;obtain⟨le,hle⟩:∃le,le=dZ over (items++order) zs:=⟨_,rfl⟩;rw[<- hle] at d0;have adp:=aa hle;clear hle;by_cases Lw:le=0
   ·have t1:(le != 0)=false:=by simp[Lw]
    have HZ:=aa (show dZ over (items++order) zs=0 by rw[<- adp.ae];exact Lw);clear Lw;go_wp2_with fail;exact CI.ae _ _ (aiG.ae HZ.ae _ _ LA lc dJ rfl rfl rfl rfl rfl HB.ae JP.ae ID.ae HP.ae zL.ae)
   ·have t1:(le != 0)=true:=by simp[Lw]
    have HZ:=aa (show dZ over (items++order) zs≠0 by rw[<- adp.ae];exact Lw);have eU:aB wr g6 33 #[az,az,af 0]:=F7.ae.later HB.ae;have QK:=aa eU;have Q3:=aa (show aB wr gb 84 #[af le] by rw[adp.ae];exact wI.ae);clear Lw eU;go_upto_region 28 with fail;clear d0;refine bC 4 (aiL gb le) (QO _ _) Taa Taa Taa ?_ ?_
    ·simp only[take_succ_cons,take_zero];refine⟨Zge,Zaa,Zbp,?_,trivial⟩
     ·intro ρ w3 hc hL hr;have h0:_=_:=hr.1;have h1:_=_:=hr.2.1;have HX:=QK.ae.later hL;open zdY in exact ZbM
    intro W6 hL;simp only[Uab];rintro _ rfl _ rfl _ rfl;simp only[bE,Act.put,Uac];have eU:aB W6 g6 33 #[az,az,af 0]:=QK.ae.later hL;have bJ:w.grownBy W6 (some g6):=aR (Below.trans HB.ae (hL.mono HB.ae.size));go_wp2_with fail;refine HE.ae HZ.ae _ _ rfl rfl ?_ eU bJ;rw[<- adp.ae];rfl):p:=h
theorem zij.Kcl(h:p:=by
 obtain⟨gn,hni⟩:∃gn,gn=yi.length:=⟨_,rfl⟩;obtain⟨no,hno⟩:∃no,no=yo.length:=⟨_,rfl⟩;have IH:=aa hni;have HNO:=aa hno;have hyi:=dX Qr.ti;have hyo:=dX Qr.eD;have HYI:=aa (show items.length=gn by rw[hyi,hni]);have HYO:=aa (show order.length=no by rw[hyo,hno]);have Uy:=aa (show yi.length+yo.length<=1000000 by omega);have LE:=aa (show(yi++yo).length<=1599289640356 by rw[length_append];omega);clear hh hE hO Qr Jn Tp hz Nk Gp Tq Qs hX eU hni hno hyi hyo;simp only[ey,fy,Tryz.f11,Option.getD_some];refine wp_seq_k λ K0 hK=>?_
 have HK:=aa hK;clear hK;go_wp2_with fail;refine HK.ae _ _ ?_;clear HK;have b1:=ah w (.cells #[af 0] 84);have k1:=aB.new w 84 #[af 0];have eL:=aa b1;have J1:=aa k1;clear b1 k1;obtain⟨gb,Hm⟩:∃gb,gb=w.heap.size:=⟨_,rfl⟩;have mF:=aa Hm;rw[<- Hm] at J1 ⊢;generalize w.alloc (.cells #[af 0] 84)=W1 at*;open zgk in exact Zej):p:=h
theorem Wi (w0:World)(gp g3 g6:Nat)(items order:List Tr)(over:List aX)(yi yo:List Ex)(IA:Option Addr)(ic:Nat)(DA:Option Addr)(dc:Nat)(OA:Option Addr)(oc:Nat)(zs:List aW)(EA0:Option Addr)(ec0:Nat)(T:Array Value)(hT:T.size=183)
  (h3:T.getD 3 undef=aw g3) (h6:T.getD 6 undef=aw g6) (h8:T.getD 8 undef=aw gp) (h10:T.getD 10 undef=.slice EA0 zs.length ec0) (h11:T.getD 11 undef=.slice OA over.length oc) (d:List Deferred) (w:World) (Q:Exit->Act->World->Prop)
  (Qr:MP w gp items order over yi yo IA ic DA dc OA) (Jn:Tr.cN (items++order)) (Tp:items.length<=100000) (hz:order.length<=1000000 - 100000) (Nk:over.length<=140737488355328) (Gp:items≠ []->items.length<=1000)
  (Tq:RR w w.heap.size EA0 zs) (Qs:zs.length<=301) (hX:∀r∈zs,r.l.length<=1000/\∀v∈r.l,v.Ok) (eU:aB w g6 33 #[az,az,af 0])
  (hE:dZ over (items++order) zs≠0->∀a W,a.defers=d->a.tmps.getD 6 undef=aw g6->a.tmps.getD 7 undef=af (dZ over (items++order) zs)->aB W g6 33 #[az,az,af 0]->w.grownBy W (some g6)->Q .ret a W)
  (hO:dZ over (items++order) zs=0->∀(T':Array Value) W LA lc (dJ:List (aW×aW)),T'.size=183->T'.getD 3 undef=aw g3->T'.getD 6 undef=aw g6->T'.getD 8 undef=aw gp->T'.getD 13 undef=.slice LA dJ.length lc->aj w W->aI eN 91 2 W w.heap.size (.slice LA dJ.length lc) dJ->(∀x∈dJ,bM W x.1.A x.1.l/\bM W x.2.A x.2.l/\x.1.l.length<=1000/\x.2.l.length=order.length)->dJ.map MN=wR items order over zs->dJ.length<=zs.length->(fy ey 12).wp Tryz.prog Q { tmps:=T',defers:=d } W):
  (fy ey 8).wp Tryz.prog Q { tmps:=T,defers:=d } w:=by
 obtain⟨f,rfl⟩:=yt T hT;have h3:f 3=_:=h3;have h6:f 6=_:=h6;have h8:f 8=_:=h8;have h10:f 10=_:=h10;have h11:f 11=_:=h11;simp only[XG,h3,h6,h8,h10,h11];clear h3 h6 h8 h10 h11;clear h3 h6 h8 h10 h11 hT;have hh:=λ h0 (T':Array Value) W LA lc dJ a0 a1 a2 a3 a4 a5 a6 a7 a8 a9=>hO h0 T' W LA lc dJ a0 a1 a2 a3 a4 a5 a6 a7 a8 a9
 simp only[ey,fy,Tryz.f11,Option.getD_some] at hh;have aiG:=aa hh;open zij in exact ZgY
structure P5 (t:Tr) (s:dy) (r:Except Int (Tr×Int×dy)):Prop where
 err:∀e,r=.error e->e≠0
 ok:∀y k s',r=.ok (y,k,s')->t.ok->y.ok
 len:∀y k s',r=.ok (y,k,s')->s'.aL.length+s'.aJ.length<=s.aL.length+s.aJ.length+2*t.nodes
 aok:∀y k s',r=.ok (y,k,s')->t.ok->Tr.cN s.aJ->Tr.cN s'.aJ
theorem lM (g:Bool)(aL:List Tr)(cols:List aX)(t:Tr)(s:dy):P5 t s (pd g aL cols t s):=by
 unfold pd;split
 ·split
  ·rename_i h1 h2;exact ZeL
  ·refine⟨λ e h=> Tae,λ y k s' h ht=>?_,λ y k s' h=>?_,λ y k s' h _ ha=>?_⟩;all_goals (injection h with h;injection h with h1 h2;injection h2 with h2 h3)
   ·rw[<- h1];exact ht
   ·rw[<- h3];omega
   ·rw[<- h3];exact ha
 ·have hf:=iD aL cols t s
  cases hr:Tr.turn aL cols t s with
  | error e=>dsimp only;exact⟨λ e2 h=>by injection h with h;rw[<- h];exact hf.err _ hr,λ _ _ _ h=> Tae,λ _ _ _ h=> Tae,λ _ _ _ h=> Tae⟩
  | ok p=>
    obtain⟨y,s'⟩:=p;dsimp only;split
    ·rename_i h2;exact ZeL
    ·refine⟨λ e h=> Tae,λ y2 k s2 h ht=>?_,λ y2 k s2 h=>?_,λ y2 k s2 h ht ha=>?_⟩;all_goals (injection h with h;injection h with h1 h2;injection h2 with h2 h3)
     ·rw[<- h1];exact hf.ok _ _ hr ht
     ·rw[<- h3];exact hf.len _ _ hr
     ·rw[<- h3];exact hf.aok _ _ hr ht ha
def tT (l:List Tr):Except Int (List Tr×dy)->Except Int (List Tr×dy)
 | .error e=> .error e
 | .ok (ys,s)=> .ok (l++ys,s)
theorem GJ (x:Except Int (List Tr×dy)):tT [] x=x:=by exact Zg6
theorem Dn (l:List Tr)(y:Tr)(x:Except Int (List Tr×dy)):tT l (match x with | .error e=> .error e | .ok (ys,s)=> .ok (y::ys,s))=tT (l++ [y]) x:=by
 cases x with
 | error e=>rfl
 | ok p=>obtain⟨ys,s⟩:=p;show Except.ok (l++y::ys,s)=Except.ok ((l++ [y])++ys,s);rw[append_assoc];rfl
variable{ts:List Tr}
theorem uQ(h:k < ts.length):Tr.aQ (ts.drop k)=ts[k].nodes+Tr.aQ (ts.drop (k+1)):=by rw[drop_eq_getElem_cons h,fT,fT,map_cons,sum_cons]
def qp (a:Act)(d:List Deferred)(g4 g5:Nat):Prop:=a.defers=d/\a.tmps.getD 4 undef=aw g4/\a.tmps.getD 5 undef=aw g5
def wS (w0:World)(g4 g5 D:Nat)(w:World):Prop:=aj w0 w/\w0.heap.size<=g4/\w0.heap.size<=g5/\g4≠g5/\g4≠D/\g5≠D/\aB w g4 72 #[.pointer none]/\aB w g5 34 #[af 0]/\w.heap[D]?=some (.deferred (some []))
def jf (w:World)(g4 g5:Nat)(er:Int):World:=(w.setCell ⟨g4,0,none⟩ (.pointer none)).setCell ⟨g5,0,none⟩ (af er)
def jt (w:World)(g4 g5 gp:Nat):World:=(w.setCell ⟨g4,0,none⟩ (aw gp)).setCell ⟨g5,0,none⟩ (af 0)
variable{w0:World}{g2 g4 g5 D:Nat}{qc:Array Value}{R:Nat->Value}
theorem PlF.P6(h:PlF w0 gp g2 qc g4 g5 D R w):wS w0 g4 g5 D w:=⟨h.base,h.new.1,h.new.2.1,h.new.2.2.1,h.new.2.2.2.1,h.new.2.2.2.2,h.z4,h.z5,h.dd⟩
theorem wS.later(h:wS w0 g4 g5 D w)(hb:aj w w'):wS w0 g4 g5 D w':=by
 obtain⟨h1,h2,h3,h4,h5,h6,h7,h8,h9⟩:=h;refine⟨Below.trans h1 (hb.mono h1.size),h2,h3,h4,h5,h6,h7.later hb,h8.later hb,(hb.block D ?_).trans h9⟩;rcases Nat.lt_or_ge D w.heap.size with h | h
 ·exact h
 ·rw[Array.getElem?_eq_none h] at h9;cases h9
variable{S:Nat->Prop}{y:Ex}
theorem mz{t:Tr} (h:Tr.aO w S [t] [y]):t.at_ w S y:=by unfold Tr.aO at h;obtain⟨y2,ys,e,h1,_⟩:=h;injection e with e _;rw[e];exact h1
variable{c:PC}{r:Rest}{u v u' v':Value}{ya:List Ex}{s:dy}{hd:List aX}{yh:List Ex}{th:List Tr}
theorem cO.err{ti eD:List Tr}(h:cO c w0 gp g2 qc g4 g5 D r w u v ya s hd yi yh yo ti th eD)(hs:gK gp w u v w' u' v'):wS w0 g4 g5 D w':=by refine⟨Below.trans h.f.base (hs.low h.f.base.size h.f.low (λ q hq=>(h.f.rows 0 WC q hq).1) (λ q hq=>(h.f.rows 1 WC q hq).1)),h.f.new.1,h.f.new.2.1,h.f.new.2.2.1,h.f.new.2.2.2.1,h.f.new.2.2.2.2,hs.blk h.f.z4 (h.kp2 h.f.k4),hs.blk h.f.z5 (h.kp2 h.f.k5),(hs.block D (h.kp2 h.f.kD)).trans h.f.dd⟩
theorem zbU.Kam(h:p:=by go_wp2_with fail;exact HE.ae er _ _ (aie.ae.symm.trans ox.ae) nJ.ae ⟨rfl,rfl,rfl⟩ HW.ae):p:=h
theorem zdC.KaF(h:p:=by simp[go_sem,h,z0,z1,x2,x3,x4,x5,x6,bH]):p:=h
theorem zhV.Kcb(h:p:=by have P8:=aa (sQ.ae.aog (by rw[VD.ae] at yu ⊢;exact yu) (mz GK.ae));exact Zco):p:=h
theorem zfv.Kbf(h:p:=by
 obtain⟨RA,rc,vd,_⟩:=sQ.ae.o5.reads;have zU:=aa sQ.ae.o5;have HL7:=aa (show yh.length<=1000000 by have:=HFN.ae;have:=qE.ae;have:=F7.ae;omega);have zW:=aa VE;clear VE;dsimp only at vd zU;subst vd;obtain⟨r1,hr1⟩:∃r1:Rest,r1= { r with o:=Value.slice RA yh.length rc }:=⟨_,rfl⟩;have VD:=aa hr1;rw[<- hr1] at sQ GK;clear hr1;go_wp2_with fail;refine Gq (gp:=gp) (k:=15) (B:=w0.heap.size) (gx:=gY) (cs:=c.cells r1 u' v') (r:=Value.slice RA yh.length rc) (ys:=yh) (y:=Kx) (s0:=6) (s1:=28) (d0:=239) (d1:=240) (d2:=241) (d3:=242) (d4:=243) (d5:=244) (d6:=245) (d7:=246) (d8:=247) (d10:=248) (d11:=249) Taa Taa Taa rfl rfl ?_ ?_ ?_ ?_ ?_ ?_ ?_ ?_ ?_ ?_ ?_ ?_ ?_ ?_ sQ.ae.f.base.size sQ.ae.blk zU.ae HL7.ae NC.ae Tt.ae.1 Tt.ae.2 ?_
 ·exact Zeh
 ·exact Zeh
 ·exact Zeh
 ·intro ρ w h hc;simp[go_sem,h,hc]
 ·intro ρ w h hb;open zdC in exact Zbw
 ·exact Zeh
 ·intro ρ w hc;simp[go_sem,hc.const,bH,wH]
 ·exact Zen
 ·exact ZgK
 ·rfl
 ·exact Zeh
 ·exact Zeh
 ·intro ρ w A1 n1 c1 h1 h2 hc hf;simp[go_sem,h1,h2,hc,hf]
 ·rw[VD.ae];rfl
 open zhV in exact Zgn):p:=h
theorem zbo.Kag(h:p:=by
 clear k1;go_wp2_with fail;clear z0 z1 x2 x3 x4 x5 x6;refine(CO c w0 gp { r with o:=rv } t y s1 u1 v1 Ji W2 gh.ae kz.ae xe.ae tU.ae.ps TaO).mono ?_;intro e w6 hp;have vg:=aa (lM c.aK c.aL c.cols t s1)
 cases hr:pd c.aK c.aL c.cols t s1 with
 | error er=>
   have jV:=uY.ae;rw[hr] at hp vg jV;obtain⟨Kx,ty,u',v',rfl,hst⟩:=hp;have her:=vg.ae.err _ rfl;have xf:X=.error er:=by rw[uI.ae,jV];rfl
   have ox:=aa xf;have nJ:=aa her;have t1:(er != 0)=true:=by simp[her]
   have bg:=ah w6 (.cells (ay Kx) 46);have HW:=aa ((tU.ae.err hst).later bg);clear xf hr her hst jV vg uY tU bg;go_upto_region 50 with fail;generalize w6.alloc (.cells (ay Kx) 46)=WD at*;obtain⟨_,_,_,uR,_,_,b4,b5,_⟩:=HW.ae;open zbU in exact ZaE
 | ok p=>
   obtain⟨t2,ty,s2⟩:=p;have jV:=uY.ae;rw[hr] at hp vg jV;obtain⟨Kx,u',v',G7,rfl,uH,pK,hst⟩:=hp;have rU:=tU.ae.call hst pK;have Wl:=tU.ae.tree hst pK uH;have bg:=ah w6 (.cells (ay Kx) 46);have XH:=aB.new w6 46 (ay Kx);have sQ:=aa (rU.later bg);have GK:=aa ((CS.later (w0:=w0) (gp:=gp) (R:=PR u' v' { r with o:=rv }) bg).trees (Tr.fL Wl));have Tt:=aa (show w6.heap.size≠gp/\rv.ownBlock≠some w6.heap.size from⟨by have:=rU.f.lt;omega,λ e=>by have:=(rU.f.rows 5 WC _ e).2.1;omega⟩);have Dp:=aa (vg.ae.len _ _ _ rfl);have EF:=aa (show X=tT (eD++ [t2]) (eu c.aK c.aL c.cols (q.ord.drop (k+1)) s2) by
    rw[uI.ae,jV]
    exact Dn eD t2 _)
   have VE:=rU.t5.length;clear hr jV hst pK uH rU Wl bg vg uY uI tU;go_upto_region 50 with fail;open zfv in exact Zdc):p:=h
theorem zh3.Kcd(h:p:=by
 rw[hn,<- eU] at z6;clear hE Qr Jn Tp hz Nk Gp Tq Qs hX hP hR HX hn eU;simp only[bK,fy,Tryz.f28,Option.getD_some];go_wp2_with fail;clear z6;go_loopw [224] (λ i wr=>∃(k:Nat) (rv u1 v1:Value) (Ji yh:List Ex) (s1:dy) (eD:List Tr),k<=zs.length/\i=af k/\cO c w0 gp g2 (eJ q L) g4 g5 D { r with o:=rv } wr u1 v1 Ji s1 hd yi KK yh ti th eD/\X=tT eD (eu c.aK c.aL c.cols (q.ord.drop k) s1)/\s1.aL.length+s1.aJ.length+2*Tr.aQ ((q.ord.map (·.1)).drop k)<=1000000/\eD.length=k) (λ i _=>zs.length - (intOf i).toNat);case atStart=>exact⟨0,r.o,u,v,ya,[],s,[],Nat.zero_le _,rfl,jI.ae,by rw[drop_zero,GJ];exact aie.ae,by rw[drop_zero];exact HLEN.ae,rfl⟩
 case round=>
  clear jI;obtain⟨k,rv,u1,v1,Ji,yh,s1,eD,hk,rfl,hP,Ts,Qs,Td⟩:=hrel;have uI:=aa Ts;have zh:=aa Qs;have jI:=aa hP;have qE:=aa Td;clear Ts Qs hP Td;by_cases hlt:k < zs.length
  ·have fG:k < q.ord.length:=by rw[<- F7.ae];exact hlt
   obtain⟨b,off,hA,Ch,hcell⟩:∃b off,L.o.A=some ⟨b,off,none⟩/\b < w0.heap.size/\cw w0 b (off+k*8) zs[k].1/\w0.cell? ⟨b,off+k*8+7,none⟩=some zs[k].2:=by exact Zhi
   have hb8:zs[k].2=.bool (q.ord[k]'fG).2:=by have h1:=congrArg (λ l=>l[k]?) VC.ae;simp only[getElem?_map,getElem?_eq_getElem hlt,getElem?_eq_getElem fG,Option.map_some] at h1;injection h1
   have rM:(q.ord[k]'fG).1.at_ w0 (Old w0) zs[k].1:=by
    have hl2:k <((q.ord.map λ y=>(y.1,Value.bool y.2)).map (·.1)).length:=by simpa using fG
    obtain⟨Kx,h1,h2⟩:=pJ hl2 Xx.ae;exact Zfg
   have fU:(q.ord[k]'fG).1.ok:=dL.1 HIL.ae _ (mem_map_of_mem (getElem_mem fG));have Z3:Tr.aQ ((q.ord.map (·.1)).drop k)=(q.ord[k]'fG).1.nodes+Tr.aQ ((q.ord.map (·.1)).drop (k+1)):=by have h1:=uQ (ts:=q.ord.map (·.1)) (k:=k) (by simpa using fG);simpa using h1
   have hdr:eu c.aK c.aL c.cols (q.ord.drop k) s1=(match pd c.aK c.aL c.cols (q.ord[k]'fG).1 s1 with
     | .error e=> .error e
     | .ok (Kx,_,s')=>match eu c.aK c.aL c.cols (q.ord.drop (k+1)) s' with
       | .error e=> .error e
       | .ok (ys,Lb)=> .ok (Kx::ys,Lb)):=by
    rw[drop_eq_getElem_cons fG];obtain⟨t,bb⟩:=q.ord[k];rfl
   rw[hb8] at hcell;generalize zs[k].1=y at*;generalize (q.ord[k]'fG).2=b8 at*;generalize (q.ord[k]'fG).1=t at*;obtain⟨hex,h7⟩:=hcell;have iB:=hex.keep (λ o=>jI.ae.f.base.cell (p:=⟨b,o,none⟩) Ch);have h72:=(jI.ae.f.base.cell (p:=⟨b,off+k*8+7,none⟩) Ch).trans h7;unfold cw at iB;have xe:=aa rM;have kz:=aa fU;have HND:=aa Z3;have uY:=aa hdr;have HAA:=aa hA;rw[hA];clear hex h7 rM fU Z3 hdr hA Ch hb8 fG;go_upto_region 49 with fail;clear iB h72;have k1:=aB.new wr 117 #[ag y.op,ag y.v.k,af y.v.n,.string y.v.s,.string y.name,af y.width,.slice y.A y.n y.c,.bool b8];have Mn:=ah wr (.cells #[ag y.op,ag y.v.k,af y.v.n,.string y.v.s,.string y.name,af y.width,.slice y.A y.n y.c,.bool b8] 117);generalize wr.alloc (.cells #[ag y.op,ag y.v.k,af y.v.n,.string y.v.s,.string y.name,af y.width,.slice y.A y.n y.c,.bool b8] 117)=W2 at*;have tU:=aa (jI.ae.later Mn);generalize wr.heap.size=g12 at*;clear jI Mn;open zbo in exact Zax
  ·have GC:k=zs.length:=by omega
   have hXo:X=.ok (eD,s1):=by rw[uI.ae,GC,F7.ae,drop_length];show Except.ok (eD++ [],s1)=_;rw[append_nil]
   have P9:=aa hXo;clear hXo;subst GC;have HW:=aa jI.ae.f.P6;obtain⟨_,_,_,uR,_,_,b4,b5,_⟩:=HW.ae;have c4:=b4.cell 0;have c5:=(b5.far (p:=⟨g4,0,none⟩) (Ne.symm uR) (aw gp)).cell 0;have f4:=b4.frozen 0;have f5:=(b5.far (p:=⟨g4,0,none⟩) (Ne.symm uR) (aw gp)).frozen 0;simp only[getElem?_toArray,getElem?_cons_zero] at c4 c5;clear b4 b5 uR;go_wp2_with fail;exact HF.ae _ _ _ u1 v1 Ji s1 yh eD (aie.ae.symm.trans P9.ae) ⟨rfl,rfl,rfl⟩ jI.ae):p:=h
theorem zik.Kcl(h:p:=by have jI:=aa hP;have hR:=hP.f.z2;unfold eJ at hR;open zh3 in exact Zgp):p:=h
theorem zeW.Ka2(h:p:=by
 obtain⟨hn,zs,hz,Nk,Gp⟩:=XM;rw[length_map] at hn;have eU:zs.length=q.ord.length:=by have:=congrArg List.length Nk;simpa using this
 have HX:=aa (show∃X,X=eu c.aK c.aL c.cols q.ord s from⟨_,rfl⟩);obtain⟨X,hX⟩:=HX.ae;open zik in exact ZgY):p:=h
theorem Wk (c:PC)(w0:World)(gp g2 g4 g5 D:Nat)(q:Qy)(L:QL)(r:Rest)(u v:Value)(ya:List Ex)(s:dy)(hd:List aX)(yi KK:List Ex)(ti th:List Tr)(T:Array Value)(hT:T.size=252)
  (h2:T.getD 2 undef=aw g2) (h4:T.getD 4 undef=aw g4) (h5:T.getD 5 undef=aw g5) (h6:T.getD 6 undef=aw gp) (d:List Deferred) (w:World) (Q:Exit->Act->World->Prop)
  (Jn:c.Ok w0) (Tp:Tr.cN (q.ord.map (·.1))) (XM:eO w0 (q.ord.map λ y=>(y.1,.bool y.2)) L.o.A L.o.n) (Tq:q.ord.length<=1000000) (Qs:s.aL.length+s.aJ.length+2*Tr.aQ (q.ord.map (·.1))<=1000000)
  (hP:cO c w0 gp g2 (eJ q L) g4 g5 D r w u v ya s hd yi KK [] ti th [])
  (hE:∀er a W,eu c.aK c.aL c.cols q.ord s=.error er->er≠0->qp a d g4 g5->wS w0 g4 g5 D W->Q .ret a (jf W g4 g5 er))
  (Qr:∀a W r' u' v' ql s' yh eD,eu c.aK c.aL c.cols q.ord s=.ok (eD,s')->qp a d g4 g5->cO c w0 gp g2 (eJ q L) g4 g5 D r' W u' v' ql s' hd yi KK yh ti th eD->Q .ret a (jt W g4 g5 gp)):
  (fy bK 9).wp Tryz.prog Q { tmps:=T,defers:=d } w:=by
 open zeW in exact ZcA
variable{x x':Except Int (List Tr×dy)}
theorem QP(l:List Tr)(y:Tr) (h:x'=(match x with | .error e=> .error e | .ok (ys,s)=> .ok (y::ys,s))):tT l x'=tT (l++ [y]) x:=by rw[h];exact Dn l y x
theorem zbV.Kam(h:p:=by go_wp2_with fail;exact HE.ae er _ _ (.inl (GI.ae.symm.trans ox.ae)) nJ.ae ⟨rfl,rfl,rfl⟩ HW2.ae):p:=h
theorem zbW.Kam(h:p:=by go_wp2_with fail;exact HE.ae 40 _ _ (.inl (GI.ae.symm.trans ox.ae)) Tab ⟨rfl,rfl,rfl⟩ HW2.ae):p:=h
theorem zdD.KaF(h:p:=by simp[go_sem,h,z0,z1,x2,x3,x4,x5,x6,bH]):p:=h
theorem zft.Kbe(h:p:=by go_upto_region 41 with fail;generalize w6.alloc (.cells (ay Kx) 46)=WD at*;go_wp2_with fail;refine(uf ty er WD).mono ?_;rintro e yX ⟨rfl,Js⟩;rw[BB nJ.ae];have HW2:=aa (HW.ae.later Js);clear HW Js;obtain⟨_,_,_,uR,_,_,b4,b5,_⟩:=HW2.ae;open zbV in exact ZaE):p:=h
theorem zhW.Kcb(h:p:=by have P8:=aa (sQ.ae.aof (by rw[VD.ae] at yu ⊢;exact yu) (mz GK.ae));exact Zco):p:=h
theorem zfw.Kbf(h:p:=by
 have zW:=aa HX;clear HX;go_wp2_with fail;refine(uf ty 0 WD).mono ?_;rintro e yX ⟨rfl,Js⟩;rw[Fz]
 cases hgo:bZ ty 1 with
 | false=>
   rw[if_pos rfl];have ox:=aa (show X=.error 40 by
    rw[uI.ae,IC.ae]
    show tT eD (if bZ ty 1=false then _ else _)=_
    rw[if_pos hgo]
    rfl)
   have HW2:=aa (sQ.ae.f.P6.later Js);clear Js sQ GK NC hgo IC;obtain⟨_,_,_,uR,_,_,b4,b5,_⟩:=HW2.ae;open zbW in exact ZaE
 | true=>
   rw[if_neg Tab];have EF:=aa (show X=tT (eD++ [t2]) (dz c.aK c.aL c.cols (q.eU.drop (k+1)) s2) by
    rw[uI.ae,IC.ae]
    refine QP eD t2 ?_
    show(if bZ ty 1=false then _ else _)=_
    rw[if_neg (by rw[hgo];decide)])
   have HPA:=aa (sQ.ae.later Js);have apy:=aa ((CS.later (w0:=w0) (gp:=gp) (R:=PR u' v' { r with j:=rv }) Js).trees GK.ae);have HYA:=aa (NC.ae.later Js);clear sQ GK NC Js uI IC hgo;have sQ:=HPA;have GK:=apy;have NC:=HYA;clear HPA apy HYA;obtain⟨RA,rc,vd,_⟩:=sQ.ae.o4.reads;have zU:=aa sQ.ae.o4;have HL7:=aa (show yh.length<=1000000 by have:=HFN.ae;have:=qE.ae;have:=F7.ae;have:=zW.ae;omega);dsimp only at vd zU;subst vd;obtain⟨r1,hr1⟩:∃r1:Rest,r1= { r with j:=Value.slice RA yh.length rc }:=⟨_,rfl⟩;have VD:=aa hr1;rw[<- hr1] at sQ GK;clear hr1;go_wp2_with fail;refine Gq (gp:=gp) (k:=14) (B:=w0.heap.size) (gx:=gY) (cs:=c.cells r1 u' v') (r:=Value.slice RA yh.length rc) (ys:=yh) (y:=Kx) (s0:=6) (s1:=22) (d0:=209) (d1:=210) (d2:=211) (d3:=212) (d4:=213) (d5:=214) (d6:=215) (d7:=216) (d8:=217) (d10:=218) (d11:=219) Taa Taa Taa rfl rfl ?_ ?_ ?_ ?_ ?_ ?_ ?_ ?_ ?_ ?_ ?_ ?_ ?_ ?_ sQ.ae.f.base.size sQ.ae.blk zU.ae HL7.ae NC.ae Tt.ae.1 Tt.ae.2 ?_
   ·exact Zeh
   ·exact Zeh
   ·exact Zeh
   ·intro ρ w h hc;simp[go_sem,h,hc]
   ·intro ρ w h hb;open zdD in exact Zbw
   ·exact Zeh
   ·intro ρ w hc;simp[go_sem,hc.const,bH,wH]
   ·exact Zen
   ·exact ZgK
   ·rfl
   ·exact Zeh
   ·exact Zeh
   ·intro ρ w A1 n1 c1 h1 h2 hc hf;simp[go_sem,h1,h2,hc,hf]
   ·rw[VD.ae];rfl
   open zhW in exact Zgn):p:=h
theorem zbp.Kag(h:p:=by
 clear k1;go_wp2_with fail;clear z0 z1 x2 x3 x4 x5 x6;refine(CO c w0 gp { r with j:=rv } t y s1 u1 v1 Ji W2 IH.ae kz.ae xe.ae tU.ae.ps TaO).mono ?_;intro e w6 hp;have vg:=aa (lM c.aK c.aL c.cols t s1)
 cases hr:pd c.aK c.aL c.cols t s1 with
 | error er=>
   open zft in exact Zdb
 | ok p=>obtain⟨t2,ty,s2⟩:=p;have jV:=uY.ae;rw[hr] at hp vg jV;obtain⟨Kx,u',v',G7,rfl,uH,pK,hst⟩:=hp;have rU:=tU.ae.call hst pK;have Wl:=tU.ae.tree hst pK uH;have bg:=ah w6 (.cells (ay Kx) 46);have XH:=aB.new w6 46 (ay Kx);have sQ:=aa (rU.later bg);have GK:=aa ((CS.later (w0:=w0) (gp:=gp) (R:=PR u' v' { r with j:=rv }) bg).trees (Tr.fL Wl));have Tt:=aa (show w6.heap.size≠gp/\rv.ownBlock≠some w6.heap.size from⟨by have:=rU.f.lt;omega,λ e=>by have:=(rU.f.rows 4 WC _ e).2.1;omega⟩);have Dp:=aa (vg.ae.len _ _ _ rfl);have IC:=aa jV;have HX:=rU.t4.length;clear hr jV hst pK uH rU Wl bg vg uY tU;go_upto_region 41 with fail;open zfw in exact Zdc):p:=h
theorem zgG.KbH(h:p:=by clear jI Mn;open zbp in exact Zax):p:=h
theorem zcT.Kax(h:p:=by
 have jI:=aa Gp;have b2:=Gp.f.z2;unfold eJ at b2;have c5:=b2.cell 5;simp only[Uaa] at c5;rw[hn,<- Nk] at c5;clear hE hF ih q1 q2 q3 q4 q5 Av Tp B3 hz Gp b2 hn Nk;simp only[bK,fy,Tryz.f28,Option.getD_some];go_wp2_with fail;clear c5;go_loopw [192] (λ i wr=>∃(k:Nat) (rv u1 v1:Value) (Ji yh:List Ex) (s1:dy) (eD:List Tr),k<=zs.length/\i=af k/\cO c w0 gp g2 (eJ q L) g4 g5 D { r with j:=rv } wr u1 v1 Ji s1 hd yi yh [] ti eD []/\X=tT eD (dz c.aK c.aL c.cols (q.eU.drop k) s1)/\s1.aL.length+s1.aJ.length+2*Tr.aQ (q.eU.drop k)+2*Tr.aQ (q.ord.map (·.1))<=1000000/\eD.length=k) (λ i _=>zs.length - (intOf i).toNat);case atStart=>exact⟨0,r.j,u,v,ya,[],s,[],Nat.zero_le _,rfl,jI.ae,by rw[drop_zero,GJ];exact GI.ae,by rw[drop_zero];exact Ai.ae,rfl⟩
 case round=>
  rename_i K hK;clear jI;obtain⟨k,rv,u1,v1,Ji,yh,s1,eD,hk,rfl,Gp,Ts,B3,Td⟩:=hrel;have uI:=aa Ts;have zh:=aa B3;have jI:=aa Gp;have qE:=aa Td;clear Ts B3 Gp Td;by_cases hlt:k < zs.length
  ·have fG:k < q.eU.length:=by rw[<- F7.ae];exact hlt
   obtain⟨b,off,hA,Ch,hex⟩:∃b off,L.h.A=some ⟨b,off,none⟩/\b < w0.heap.size/\cw w0 b (off+k*7) zs[k]:=by exact Zhi
   have rM:(q.eU[k]'fG).at_ w0 (Old w0) zs[k]:=by obtain⟨Kx,h1,h2⟩:=pJ fG oz.ae;rw[getElem?_eq_getElem hlt] at h1;injection h1 with h1;rw[h1];exact h2
   have fU:(q.eU[k]'fG).ok:=dL.1 Q1.ae _ (getElem_mem fG);have Z3:Tr.aQ (q.eU.drop k)=(q.eU[k]'fG).nodes+Tr.aQ (q.eU.drop (k+1)):=uQ fG;have hdr:dz c.aK c.aL c.cols (q.eU.drop k) s1=(match pd c.aK c.aL c.cols (q.eU[k]'fG) s1 with
     | .error e=> .error e
     | .ok (Kx,k2,s')=>if bZ k2 1=false then .error 40 else match dz c.aK c.aL c.cols (q.eU.drop (k+1)) s' with
       | .error e=> .error e
       | .ok (ys,Lb)=> .ok (Kx::ys,Lb)):=by
    rw[drop_eq_getElem_cons fG];rfl
   generalize zs[k]=y at*;generalize (q.eU[k]'fG)=t at*;have iB:=hex.keep (λ o=>jI.ae.f.base.cell (p:=⟨b,o,none⟩) Ch);unfold cw at iB;have xe:=aa rM;have kz:=aa fU;have HND:=aa Z3;have uY:=aa hdr;have HAA:=aa hA;rw[hA];clear hex rM fU Z3 hdr hA Ch fG;go_upto_region 40 with fail;open zgG in exact Zex
  ·have GC:k=zs.length:=by omega
   have P9:=aa (show X=.ok (eD,s1) by
    rw[uI.ae,GC,F7.ae,drop_length]
    show Except.ok (eD++ [],s1)=_
    rw[append_nil])
   subst GC
   have key:∀T:Array Value,T.size=252->T.getD 2 undef=aw g2->T.getD 4 undef=aw g4->T.getD 5 undef=aw g5->T.getD 6 undef=aw gp->(fy bK 9).wp Tryz.prog Q { tmps:=T,defers:=d } wr:=λ T hT h2 h4 h5 h6=>
    Wk c w0 gp g2 g4 g5 D q L { r with j:=rv } u1 v1 Ji s1 hd yi yh ti eD T hT h2 h4 h5 h6 d wr Q IH.ae Q3.ae Q4.ae E1.ae (by have:=zh.ae;omega) jI.ae
     (λ er a W he hne ha hw=>HE.ae er a W (.inr ⟨eD,s1,GI.ae.symm.trans P9.ae,he⟩) hne ha hw)
     (λ a W r' u' v' ql s' yo KK he ha hp=>HF.ae a W r' u' v' ql s1 s' yh yo eD KK (GI.ae.symm.trans P9.ae) he ha hp)
   exact Zcb):p:=h
theorem zeX.Ka2(h:p:=by obtain⟨hn,zs,q5,Av⟩:=hih;have Nk:zs.length=q.eU.length:=Av.length;obtain⟨X,hz⟩:∃X,X=dz c.aK c.aL c.cols q.eU s:=⟨_,rfl⟩;have HE:=aa hE;open zcT in exact Zbd):p:=h
theorem QQ (c:PC)(w0:World)(gp g2 g4 g5 D:Nat)(q:Qy)(L:QL)(r:Rest)(u v:Value)(ya:List Ex)(s:dy)(hd:List aX)(yi:List Ex)(ti:List Tr)(T:Array Value)(hT:T.size=252)
  (h2:T.getD 2 undef=aw g2) (h4:T.getD 4 undef=aw g4) (h5:T.getD 5 undef=aw g5) (h6:T.getD 6 undef=aw gp) (d:List Deferred) (w:World) (Q:Exit->Act->World->Prop)
  (ih:c.Ok w0) (q1:Tr.cN q.eU) (hih:gI w0 q.eU L.h.A L.h.n) (q2:q.eU.length<=1000000) (q3:Tr.cN (q.ord.map (·.1))) (q4:eO w0 (q.ord.map λ y=>(y.1,.bool y.2)) L.o.A L.o.n) (Tp:q.ord.length<=1000000) (B3:s.aL.length+s.aJ.length+2*Tr.aQ q.eU+2*Tr.aQ (q.ord.map (·.1))<=1000000)
  (Gp:cO c w0 gp g2 (eJ q L) g4 g5 D r w u v ya s hd yi [] [] ti [] [])
  (hE:∀er a W,(dz c.aK c.aL c.cols q.eU s=.error er\/∃eD s',dz c.aK c.aL c.cols q.eU s=.ok (eD,s')/\eu c.aK c.aL c.cols q.ord s'=.error er)->er≠0->qp a d g4 g5->wS w0 g4 g5 D W->Q .ret a (jf W g4 g5 er))
  (hF:∀a W r' u' v' ql s1 s' yh yo eD KK,dz c.aK c.aL c.cols q.eU s=.ok (eD,s1)->eu c.aK c.aL c.cols q.ord s1=.ok (KK,s')->qp a d g4 g5->cO c w0 gp g2 (eJ q L) g4 g5 D r' W u' v' ql s' hd yi yh yo ti eD KK->Q .ret a (jt W g4 g5 gp)):
  (fy bK 8).wp Tryz.prog Q { tmps:=T,defers:=d } w:=by
 open zeX in exact ZcA
structure Jt (gp B:Nat) (W:World) (cs:Array Value) (ri rh:Value) (yi:List Ex) (y:Ex) (hd:List aX) (EG:aX) (s5 s7 s8 EH Tu:Option Value) (s21:Bool) (w:World):Prop where
 e5:∀x,s5=some x->x=ri
 e8:s8.isSome=true->s5.isSome=true/\s7.isSome=true
 e21:s21=true->s8.isSome=true
 e18:Tu.isSome=true->EH.isSome=true
 z7:s8=none->∀x,s7=some x->∃g,x=aH g 1 1/\aB w g 46 (bH y).toArray
 z17:Tu=none->∀x,EH=some x->∃g,x=aH g 1 1/\aB w g 113 (aS EG).toArray
 items:aI bH 46 7 w B (s8.getD ri) (yi++if s8.isSome=true then [y] else [])
 head:aI aS 113 2 w B (Tu.getD rh) (hd++if Tu.isSome=true then [EG] else [])
 mvi:Mv W ri (s8.getD ri)
 mvh:Mv W rh (Tu.getD rh)
 blk:aB w gp 81 (if s21=true then cs.setIfInBounds 13 (s8.getD ri)else cs)
 far:∀b,b < W.heap.size->b≠gp->ri.ownBlock≠some b->rh.ownBlock≠some b->w.heap[b]?=W.heap[b]?
 os:w.os=W.os
 tape:w.tape=W.tape
 output:w.output=W.output
 size:W.heap.size<=w.heap.size
section
variable {gp B:Nat} {W w w':World} {cs:Array Value} {ri rh:Value} {yi:List Ex} {y:Ex} {hd:List aX} {EG:aX} {s5 s7 s8 EH Tu:Option Value} {s21:Bool}
theorem Jt.later (h:Jt gp B W cs ri rh yi y hd EG s5 s7 s8 EH Tu s21 w)(hb:aj w w'):Jt gp B W cs ri rh yi y hd EG s5 s7 s8 EH Tu s21 w':=
 ⟨h.e5,h.e8,h.e21,h.e18,λ h1 x hx=>by obtain⟨g,k1,k2⟩:=h.z7 h1 x hx;exact⟨g,k1,k2.later hb⟩,λ h1 x hx=>by obtain⟨g,k1,k2⟩:=h.z17 h1 x hx;exact⟨g,k1,k2.later hb⟩,h.items.later hb,h.head.later hb,h.mvi,h.mvh,h.blk.later hb,λ b h1 h2 h3 h4=>(hb.block b (Nat.lt_of_lt_of_le h1 h.size)).trans (h.far b h1 h2 h3 h4),hb.os.trans h.os,hb.tape.trans h.tape,hb.output.trans h.output,Nat.le_trans h.size hb.size⟩
theorem Jt.avw (h:Jt gp B W cs ri rh yi y hd EG s5 s7 none EH Tu false w)(h5:s5.isSome=true)(h7:s7.isSome=true) {a:Value}(ho:aI bH 46 7 w' B a (yi++ [y]))(hg:w.grownBy w' ri.ownBlock)(hm:Mv w ri a):Jt gp B W cs ri rh yi y hd EG s5 s7 (some a) EH Tu false w':=by
 have hi:aI bH 46 7 w B ri yi:=by simpa using h.items
 refine⟨h.e5,λ _=>⟨h5,h7⟩,λ _=>rfl,h.e18,(λ e=>by cases e),λ h1 x hx=>by obtain⟨g,k1,k2⟩:=h.z17 h1 x hx;exact⟨g,k1,dA k2 hi Tab hg⟩,ho,h.head.past hi Tab hg,hm.later h.size,h.mvh,dA h.blk hi Tab hg,λ b h1 h2 h3 h4=>(hg.block b (Nat.lt_of_lt_of_le h1 h.size) (Ne.symm h3)).trans (h.far b h1 h2 h3 h4),hg.os.trans h.os,hg.tape.trans h.tape,hg.output.trans h.output,Nat.le_trans h.size hg.size⟩
theorem Jt.apz (h:Jt gp B W cs ri rh yi y hd EG s5 s7 s8 EH none s21 w)(h8:s8.isSome=true)(h17:EH.isSome=true) {a:Value}(ho:aI aS 113 2 w' B a (hd++ [EG]))(hg:w.grownBy w' rh.ownBlock)(hm:Mv w rh a):Jt gp B W cs ri rh yi y hd EG s5 s7 s8 EH (some a) s21 w':=by
 have hi:aI aS 113 2 w B rh hd:=by simpa using h.head
 refine⟨h.e5,h.e8,h.e21,λ _=>h17,λ e=>by(rw[e] at h8;cases h8),(λ e=>by cases e),h.items.past hi Tab hg,ho,h.mvi,hm.later h.size,dA h.blk hi Tab hg,λ b h1 h2 h3 h4=>(hg.block b (Nat.lt_of_lt_of_le h1 h.size) (Ne.symm h4)).trans (h.far b h1 h2 h3 h4),hg.os.trans h.os,hg.tape.trans h.tape,hg.output.trans h.output,Nat.le_trans h.size hg.size⟩
theorem Jt.apA (h:Jt gp B W cs ri rh yi y hd EG s5 s7 s8 EH Tu false w)(h8:s8.isSome=true):Jt gp B W cs ri rh yi y hd EG s5 s7 s8 EH Tu true (w.setCell ⟨gp,13,none⟩ (s8.getD ri)):=by
 have hk:aB w gp 81 cs:=h.blk;have hn8:s8≠none:=λ e=>by rw[e] at h8;cases h8
 have hf:=λ b (hb:b≠gp)=>Below.heap_setCell w ⟨gp,13,none⟩ (s8.getD ri) b hb
 have hz:∀ {g:Nat} {t:TypeId} {c:Array Value},aB w g t c->t≠81->g≠gp:=λ k1 k2 e=>by subst e;have:=k1.symm.trans hk;injection this with this;injection this with _ this _;exact k2 this
 refine⟨h.e5,h.e8,λ _=>h8,h.e18,λ e=>absurd e hn8,λ h1 x hx=>by obtain⟨g,k1,k2⟩:=h.z17 h1 x hx;exact⟨g,k1,(hf g (hz k2 Tab)).trans k2⟩,h.items.keep λ g hg2=>hf g λ e=>h.items.other hk Tab Tak,h.head.keep λ g hg2=>hf g λ e=>h.head.other hk Tab Tak,h.mvi,h.mvh,hk.aT 13 _,λ b h1 h2 h3 h4=>(hf b h2).trans (h.far b h1 h2 h3 h4),h.os,h.tape,h.output,by rw[World.size_setCell];exact h.size⟩
end
def qF (gp B:Nat)(W:World)(cs:Array Value)(ri rh:Value)(yi:List Ex)(y:Ex)(hd:List aX)(EG:aX)(σ:Nat->Option Value)(w:World):Prop:=Jt gp B W cs ri rh yi y hd EG (σ 5) (σ 7) (σ 8) (σ 17) (σ 18) (σ 21).isSome w
variable{B:Nat}{W:World}{cs:Array Value}{rh:Value}{EG:aX}{s5 s7 s8 EH Tu:Option Value}{s21:Bool}
theorem Jt.c12{ri:Value}      (h:Jt gp B W cs ri rh yi y hd EG s5 s7 s8 EH Tu s21 w)(hch:cs[12]?=some rh):w.cell? ⟨gp,12,none⟩=some rh:=by
 rw[h.blk.cell]
 cases s21 with
 | false=>exact hch
 | true=>rw[if_pos rfl,Array.getElem?_setIfInBounds_ne WC];exact hch
variable{P:Program}{o:Oper}{ρ:Operand->Value}{T:Value->World->Prop}
theorem QR(h:(execOp ρ o).run P w=.ok .skip w')(ht:T undef w'):xi P o ρ w T:=by unfold xi;rw[h];exact ht
def rW (n:Nat):Code->Option Code
 | .region id ops b=>if id=n then some (.region id ops b)else none
 | .seq a b=>match rW n a with | some c=>some c | none=>rW n b
 | .cond _ a b=>match rW n a with | some c=>some c | none=>rW n b
 | .block _ c=>rW n c
 | .loop c=>rW n c
 | _=>none
noncomputable def Dr:Code:=(rW 35 (fy bK 7)).getD .skip
def lbU (gp:Nat)(rh:Value)(y:Ex)(nm:ByteArray)(ty:Int)(g16:Nat):Nat->Value:=λ i=>if i=0 then(aw gp)else if i=1 then(aw gp)else if i=2 then(aw gp)else if i=3 then(aw gp)else if i=4 then(bh gp 13)else if i=6 then(.agg (bH y).toArray)else if i=9 then(aw gp)else if i=10 then(aw gp)else if i=11 then(bh gp 12)else if i=12 then(rh)else if i=13 then(bh g16 7)else if i=14 then(.string nm)else if i=15 then(ag ty)else if i=16 then(.agg (aS ⟨nm,ty⟩).toArray)else if i=19 then(aw gp)else if i=20 then(bh gp 13)else undef
section
variable {gp B gY g16:Nat} {W:World} {cs:Array Value} {ri rh:Value} {yi:List Ex} {y:Ex} {hd:List aX} {nm:ByteArray} {ty:Int} {Q:Exit->Act->World->Prop} {T:Array Value} {d:List Deferred}
theorem zdA.KaF(h:p:=by show(execOp ρ _).run Tryz.prog X8=.ok (.value (.agg (bH y).toArray)) X8;simp[go_sem,r0,z0,z1,x2,x3,x4,x5,x6,bH]):p:=h
theorem Ds (hT:T.size=252)(es0:T.getD 6 undef=aw gp)(es1:T.getD 17 undef=aw gY)(es2:T.getD 16 undef=aw g16)(es3:T.getD 18 undef=ag ty)
  (Z4:cs[13]?=some ri) (hch:cs[12]?=some rh) (hB:B<=W.heap.size) (hblk:aB W gp 81 cs) (hoi:aI bH 46 7 W B ri yi) (hoh:aI aS 113 2 W B rh hd) (Nk:yi.length<=1000000) (hlh:hd.length<=1000000)
  (XH:aB W gY 46 (bH y).toArray) (hY1:gY≠gp) (hY2:ri.ownBlock≠some gY) (hY3:rh.ownBlock≠some gY) (hn:W.cell? ⟨g16,7,none⟩=some (.string nm)) (hN0:g16 < W.heap.size) (hN1:g16≠gp) (hN2:ri.ownBlock≠some g16) (hN3:rh.ownBlock≠some g16)
  (mh:∀adr ads z167 z168 adt adu z171 adw z173 adx z175 ady adz adA adB adC adD z182 z183 adE adF adG adH X8 a b s7 EH,Jt gp B W cs ri rh yi y hd ⟨nm,ty⟩ (some ri) s7 (some a) EH (some b) true X8->Q .normal { tmps:=(((((((((((((((((((((((T.setIfInBounds 165 adr).setIfInBounds 166 ads).setIfInBounds 167 z167).setIfInBounds 168 z168).setIfInBounds 169 adt).setIfInBounds 170 adu).setIfInBounds 171 z171).setIfInBounds 172 adw).setIfInBounds 173 z173).setIfInBounds 174 adx).setIfInBounds 175 z175).setIfInBounds 176 ady).setIfInBounds 177 adz).setIfInBounds 178 adA).setIfInBounds 179 adB).setIfInBounds 180 adC).setIfInBounds 181 adD).setIfInBounds 182 z182).setIfInBounds 183 z183).setIfInBounds 184 adE).setIfInBounds 185 adF).setIfInBounds 186 adG).setIfInBounds 187 adH),defers:=d } (X8.setCell ⟨gp,12,none⟩ b)):
  Dr.wp Tryz.prog Q { tmps:=T,defers:=d } W:=by
 obtain⟨f,rfl⟩:=kX T hT;have es0:f 6=_:=es0;have es1:f 17=_:=es1;have es2:f 16=_:=es2;have es3:f 18=_:=es3;unfold Dr;simp only[bK,fy,Tryz.f28,Option.getD_some,rW,Nat.reduceEqDiff,if_true,if_false];refine mS _ _ (take_append_drop 22 _).symm (lbU gp rh y nm ty g16) [5,7,8,17,18,21] (qF gp B W cs ri rh yi y hd ⟨nm,ty⟩) (λ σ X8 h=>Jt.later h (Below.refl _ _).drew) ⟨(λ x e=>by cases e),(λ e=>by cases e),(λ e=>by cases e),(λ e=>by cases e),(λ _ x e=>by cases e),(λ _ x e=>by cases e),by simpa using hoi,by simpa using hoh,Mv.refl _ _,Mv.refl _ _,hblk,λ _ _ _ _ _=>rfl,rfl,rfl,rfl,Nat.le_refl _⟩ Taa Taa Taa Taa ?_ ?_
 ·simp only[take_succ_cons,take_zero];refine⟨Zcg,Zcg,Zcg,?_,?_,?_,?_,?_,?_,Zcg,?_,?_,?_,?_,?_,?_,?_,?_,?_,?_,?_,?_,trivial⟩
  ·intro ρ X8 σ hc hG hr he hno;have r0:ρ (.tmp 167)=aw gp:=hr.1;exact Za2
  ·intro ρ X8 σ hc hG hr he hno;have r0:ρ (.tmp 168)=aw gp:=hr.1;exact ZeQ
  ·intro ρ X8 σ hc hG hr he hno;have r0:ρ (.tmp 169)=bh gp 13:=hr.1;refine⟨rfl,?_⟩;unfold qF at hG;rw[if_pos Tab];have jZ:=hno Tab
   have h8n:σ 8=none:=by
    cases h:σ 8 with
    | none=>rfl
    | some a=>have:=(hG.e8 (by rw[h];rfl)).1;rw[jZ] at this;cases this
   have adI:(σ 21).isSome=false:=by
    cases h:(σ 21).isSome with
    | false=>rfl
    | true=>have:=hG.e21 h;rw[h8n] at this;cases this
   have hb:=hG.blk;rw[adI] at hb;have hb:aB X8 gp 81 cs:=hb;have c13:=(hb.cell 13).trans Z4;refine aq (v:=ri) (w':=X8) (by simp[go_sem,r0,c13]) ?_;show qF _ _ _ _ _ _ _ _ _ _ _ _;unfold qF;simp only[gC,Nat.reduceEqDiff,if_true,if_false];exact⟨λ x e=>by injection e with e;exact e.symm,λ e=>⟨rfl,(hG.e8 e).2⟩,hG.e21,hG.e18,hG.z7,hG.z17,hG.items,hG.head,hG.mvi,hG.mvh,hG.blk,hG.far,hG.os,hG.tape,hG.output,hG.size⟩
  ·intro ρ X8 σ hc hG hr he hno;have r0:ρ (.tmp 17)=aw gY:=(show ρ (.tmp 17)=f 17 from hr.1).trans es1;refine⟨rfl,?_⟩;unfold qF at hG;rw[if_neg Tab];have hb:aB X8 gY 46 (bH y).toArray:=(hG.far gY XH.lt hY1 hY2 hY3).trans XH;open zdA in exact Zbw
  ·intro ρ X8 σ hc hG hr he hno;have r0:ρ (.tmp 171)=.agg (bH y).toArray:=hr.1;refine⟨rfl,?_⟩;unfold qF at hG;rw[if_pos Tab];have jZ:=hno Tab;refine aq (v:=aH X8.heap.size 1 1) (w':=X8.alloc (.cells (bH y).toArray 46)) (by simp[go_sem,r0,bH]) ?_;show qF _ _ _ _ _ _ _ _ _ _ _ _;unfold qF;simp only[gC,Nat.reduceEqDiff,if_true,if_false];have hA:=hG.later (ah X8 (.cells (bH y).toArray 46));exact⟨hA.e5,λ e=>⟨(hA.e8 e).1,rfl⟩,hA.e21,hA.e18,λ _ x e=>by injection e with e;exact⟨X8.heap.size,e.symm,aB.new X8 _ _⟩,hA.z17,hA.items,hA.head,hA.mvi,hA.mvh,hA.blk,hA.far,hA.os,hA.tape,hA.output,hA.size⟩
  ·intro ρ X8 σ hc hG hr he hno;have r0:σ 5=some (ρ (.tmp 170)):=hr.1;have r1:σ 7=some (ρ (.tmp 172)):=hr.2.1;refine⟨rfl,?_⟩;unfold qF at hG;rw[if_pos Tab];have jZ:=hno Tab;have h5s:=he 5 (cK.1 Taa) Tab;have h7s:=he 7 (cK.1 Taa) Tab;rw[jZ] at hG
   have adI:(σ 21).isSome=false:=by
    cases h:(σ 21).isSome with
    | false=>rfl
    | true=>have:=hG.e21 h;cases this
   rw[adI] at hG;obtain⟨Kx,hz1,hz2⟩:=hG.z7 rfl _ r1;have q0:=hG.e5 _ r0;have aiS:aI bH 46 7 X8 B ri yi:=by simpa using hG.items
   obtain⟨v',w',hrun,ho,yD,Ei⟩:=eM (P:=Tryz.prog) (w:=X8) 23 23 _ 88 Tryz.underlying23 fI rfl WC (λ _=>rfl) (y:=y) TaD aiS Kx hz2 WC WC (Nat.le_trans hB hG.size);refine aq (v:=v') (w':=w') (by simp only[execOp,resolve,invoke,builtin,Sem.run_bind,Sem.run_pure,Result.andThen_ok,map_toArray,map_cons,map_nil,q0,hz1,hrun]) ?_;show qF _ _ _ _ _ _ _ _ _ _ _ _;unfold qF;simp only[gC,Nat.reduceEqDiff,if_true,if_false,adI];exact hG.avw h5s h7s ho yD.grown Ei
  ·intro ρ X8 σ hc hG hr he hno;have r0:ρ (.tmp 174)=aw gp:=hr.1;exact Za2
  ·intro ρ X8 σ hc hG hr he hno;have r0:ρ (.tmp 175)=aw gp:=hr.1;refine⟨rfl,?_⟩;unfold qF at hG;rw[if_neg Tab];show(execOp ρ _).run Tryz.prog X8=.ok (.value (bh gp 12)) X8;simp[go_sem,r0]
  ·intro ρ X8 σ hc hG hr he hno;have r0:ρ (.tmp 176)=bh gp 12:=hr.1;refine⟨rfl,?_⟩;unfold qF at hG;rw[if_neg Tab];have c12:=hG.c12 hch;show(execOp ρ _).run Tryz.prog X8=.ok (.value (rh)) X8;simp[go_sem,r0,c12]
  ·intro ρ X8 σ hc hG hr he hno;have r0:ρ (.tmp 16)=aw g16:=(show ρ (.tmp 16)=f 16 from hr.1).trans es2;refine⟨rfl,?_⟩;unfold qF at hG;rw[if_neg Tab];show(execOp ρ _).run Tryz.prog X8=.ok (.value (bh g16 7)) X8;simp[go_sem,r0]
  ·intro ρ X8 σ hc hG hr he hno;have r0:ρ (.tmp 178)=bh g16 7:=hr.1;refine⟨rfl,?_⟩;unfold qF at hG;rw[if_neg Tab];have cn:=(bI (hG.far g16 hN0 hN1 hN2 hN3) 7).trans hn;show(execOp ρ _).run Tryz.prog X8=.ok (.value (.string nm)) X8;simp[go_sem,r0,cn]
  ·intro ρ X8 σ hc hG hr he hno;have r0:ρ (.tmp 18)=ag ty:=(show ρ (.tmp 18)=f 18 from hr.1).trans es3;refine⟨rfl,?_⟩;unfold qF at hG;rw[if_neg Tab];show(execOp ρ _).run Tryz.prog X8=.ok (.value (ag ty)) X8;simp[go_sem,r0]
  ·intro ρ X8 σ hc hG hr he hno;have r0:ρ (.tmp 179)=.string nm:=hr.1;have r1:ρ (.tmp 180)=ag ty:=hr.2.1;refine⟨rfl,?_⟩;unfold qF at hG;rw[if_neg Tab];show(execOp ρ _).run Tryz.prog X8=.ok (.value (.agg (aS ⟨nm,ty⟩).toArray)) X8;simp[go_sem,r0,r1,aS]
  ·intro ρ X8 σ hc hG hr he hno;have r0:ρ (.tmp 181)=.agg (aS ⟨nm,ty⟩).toArray:=hr.1;refine⟨rfl,?_⟩;unfold qF at hG;rw[if_pos Tab];have jZ:=hno Tab;refine aq (v:=aH X8.heap.size 1 1) (w':=X8.alloc (.cells (aS ⟨nm,ty⟩).toArray 113)) (by simp[go_sem,r0,aS]) ?_;show qF _ _ _ _ _ _ _ _ _ _ _ _;unfold qF;simp only[gC,Nat.reduceEqDiff,if_true,if_false];have hA:=hG.later (ah X8 (.cells (aS ⟨nm,ty⟩).toArray 113));exact⟨hA.e5,hA.e8,hA.e21,λ _=>rfl,hA.z7,λ _ x e=>by injection e with e;exact⟨X8.heap.size,e.symm,aB.new X8 _ _⟩,hA.items,hA.head,hA.mvi,hA.mvh,hA.blk,hA.far,hA.os,hA.tape,hA.output,hA.size⟩
  ·intro ρ X8 σ hc hG hr he hno;have r0:ρ (.tmp 177)=rh:=hr.1;have r1:σ 17=some (ρ (.tmp 182)):=hr.2.1;refine⟨rfl,?_⟩;unfold qF at hG;rw[if_pos Tab];have jZ:=hno Tab;have h8s:=he 8 (cK.1 Taa) Tab;have avz:=he 17 (cK.1 Taa) Tab;rw[jZ] at hG;obtain⟨Kx,hz1,hz2⟩:=hG.z17 rfl _ r1;have aiS:aI aS 113 2 X8 B rh hd:=by simpa using hG.head
   obtain⟨v',w',hrun,ho,yD,Ei⟩:=eM (P:=Tryz.prog) (w:=X8) 28 28 _ 24 Tryz.underlying28 rG rfl WC (λ _=>rfl) (y:=⟨nm,ty⟩) Ta0 aiS Kx hz2 WC WC (Nat.le_trans hB hG.size);refine aq (v:=v') (w':=w') (by simp only[execOp,resolve,invoke,builtin,Sem.run_bind,Sem.run_pure,Result.andThen_ok,map_toArray,map_cons,map_nil,r0,hz1,hrun]) ?_;show qF _ _ _ _ _ _ _ _ _ _ _ _;unfold qF;simp only[gC,Nat.reduceEqDiff,if_true,if_false];exact hG.apz h8s avz ho yD.grown Ei
  ·intro ρ X8 σ hc hG hr he hno;have r0:ρ (.tmp 165)=aw gp:=hr.1;exact Za2
  ·intro ρ X8 σ hc hG hr he hno;have r0:ρ (.tmp 184)=aw gp:=hr.1;exact ZeQ
  ·intro ρ X8 σ hc hG hr he hno;have r0:ρ (.tmp 185)=bh gp 13:=hr.1;have r1:σ 8=some (ρ (.tmp 173)):=hr.2.1;refine⟨rfl,?_⟩;unfold qF at hG;rw[if_pos Tab];have jZ:=hno Tab;have h8s:=he 8 (cK.1 Taa) Tab;obtain⟨a,ha⟩:=Option.isSome_iff_exists.1 h8s;rw[jZ] at hG;rw[ha] at r1;injection r1 with r1;have jS:aB X8 gp 81 cs:=hG.blk;have hit:=hG.items;rw[ha] at hit;obtain⟨q,c,e1,_,_⟩:=hit.block Tad;have e1:a=aH q _ c:=e1;have q1:=r1.symm.trans e1;have c13:=(jS.cell 13).trans Z4;have f13:=jS.frozen 13;have hp:=Jt.apA hG h8s;rw[ha,e1] at hp;refine QR (w':=X8.setCell ⟨gp,13,none⟩ (aH q (yi++if (some a).isSome=true then [y] else []).length c)) (by simp[go_sem,r0,q1,c13,f13]) ?_;show qF _ _ _ _ _ _ _ _ _ _ _ _;unfold qF;simp only[gC,Nat.reduceEqDiff,if_true,if_false,Option.isSome_some];rw[ha,e1];exact hp
 ·intro σ X8 hM hG;simp only[Uab];obtain⟨a,ha⟩:=Option.isSome_iff_exists.1 (hM 8 Tab);obtain⟨b,hb⟩:=Option.isSome_iff_exists.1 (hM 18 Tab);have h21:=hM 21 Tab;unfold qF at hG;obtain⟨x5,h5⟩:=Option.isSome_iff_exists.1 (hM 5 Tab);have h5e:=hG.e5 _ h5;rw[ha,hb,h21,h5,h5e] at hG;intro a0 q0 a1 q1 a2 q2 a3 q3 a4 q4 a5 q5 a6 q6 a7 q7 a8 q8 a9 q9 FA Us F8 q11 a12 q12 a13 q13 a14 q14 a15 q15 a16 q16 a17 q17 a18 q18 a19 q19 a20 q20;have e1:a1=aw gp:=q1;have e18:σ 18=some a18:=q18;rw[hb] at e18;injection e18 with e18;clear q0 q1 q2 q3 q4 q5 q6 q7 q8 q9 Us q11 q12 q13 q14 q15 q16 q17 q18 q19 q20;subst e1 e18;have Q6:=hG.head;obtain⟨qq,cc,hqq,_,_⟩:=Q6.block Tad;have hqq:b=aH qq _ cc:=hqq;have c12:=hG.c12 hch;have f12:=hG.blk.frozen 12;simp only[bT,bE,Act.put,Uac];simp only[bT,Uac] at mh;have HF:=aa mh;have HG:=aa hG;clear mh hG Q6;obtain⟨n9,hn9⟩:∃n9,n9=(hd++if (some b).isSome=true then [(⟨nm,ty⟩:aX)] else []).length:=⟨_,rfl⟩;rw[<- hn9] at hqq;clear hn9;subst hqq;go_wp2_with fail;refine HF.ae _ _ _ _ _ _ _ _ _ _ _ _ _ _ _ _ _ _ _ _ _ _ _ _ _ _ _ _ HG.ae
end
section
variable {c:PC} {w0 w w1:World} {gp g2 g4 g5 D:Nat} {qc:Array Value} {r:Rest} {u v:Value} {ya:List Ex} {s:dy} {hd:List aX} {yi yh yo:List Ex} {ti th eD:List Tr}
theorem cO.QS (h:cO c w0 gp g2 qc g4 g5 D r w u v ya s hd yi yh yo ti th eD) {t:Tr} {y:Ex} {a b:Value} {EG:aX} {s7 EH:Option Value}(hl:Jt gp w0.heap.size w (c.cells r u v) r.i r.h yi y hd EG (some r.i) s7 (some a) EH (some b) true w1)(ht:t.at_ w (sW w gp (PR u v r)) y):
  cO c w0 gp g2 qc g4 g5 D { r with h:=b,i:=a } (w1.setCell ⟨gp,12,none⟩ b) u v ya s (hd++ [EG]) (yi++ [y]) yh yo (ti++ [t]) th eD:=by
 have jS:aB w1 gp 81 ((c.cells r u v).setIfInBounds 13 a):=hl.blk;have hi:aI bH 46 7 w1 w0.heap.size a (yi++ [y]):=hl.items;have hh:aI aS 113 2 w1 w0.heap.size b (hd++ [EG]):=hl.head;have hf:=λ k (hk:k≠gp)=>Below.heap_setCell w1 ⟨gp,12,none⟩ b k hk
 have Gg:aI bH 46 7 (w1.setCell ⟨gp,12,none⟩ b) w0.heap.size a (yi++ [y]):=hi.keep λ g hg2=>hf g λ e=>hi.other jS Tab Tak
 have hh2:aI aS 113 2 (w1.setCell ⟨gp,12,none⟩ b) w0.heap.size b (hd++ [EG]):=hh.keep λ g hg2=>hf g λ e=>hh.other jS Tab Tak
 have hb2:aB (w1.setCell ⟨gp,12,none⟩ b) gp 81 (c.cells { r with h:=b,i:=a } u v):=jS.aT 12 b;have hab:∀q,a.ownBlock=some q->b.ownBlock≠some q:=λ q h1 h2=>by obtain⟨_,_,_,e1⟩:=hi.lt h1;obtain⟨_,_,_,e2⟩:=hh.lt h2;rw[e1] at e2;injection e2 with e2;injection e2 with _ e2 _;exact absurd e2 Tab
 have p:CS w0 gp (PR u v r) (PR u v { r with h:=b,i:=a }) (λ i=>i=2\/i=3) w (w1.setCell ⟨gp,12,none⟩ b):=by
  refine⟨hl.os,hl.tape,hl.output,by rw[World.size_setCell];exact hl.size,λ k h1 h2 h3=>(hf k h2).trans (hl.far k h1 h2 (h3 3 WC (.inr rfl)) (h3 2 WC (.inl rfl))),?_,?_,?_,?_⟩
  ·intro i hi hT
   match i with
   | 0 | 1 | 4 | 5=>rfl
   | 2=>exact absurd (.inl rfl) hT
   | 3=>exact absurd (.inr rfl) hT
   | n+6=>omega
  ·intro i hi hT;rcases hT with rfl | rfl
   ·exact hl.mvh
   ·exact hl.mvi
  ·intro i hi j hj hT hU nP q h1 h2;rcases hT with rfl | rfl <;> rcases hU with rfl | rfl
   ·exact nP rfl
   ·exact hab q h2 h1
   ·exact hab q h1 h2
   ·exact nP rfl
  ·intro i hi hT q hq;rcases hT with rfl | rfl
   ·have hq:b.ownBlock=some q:=hq;exact⟨(hh2.lt hq).2.1,(hh2.lt hq).1,λ e=>hh2.other hb2 Tab (by rw[hq,e])⟩
   ·have hq:a.ownBlock=some q:=hq;exact⟨(Gg.lt hq).2.1,(Gg.lt hq).1,λ e=>Gg.other hb2 Tab (by rw[hq,e])⟩
 have hT:=p.trees (ts:=[t]) (ys:=[y]) (Tr.fL ht);exact⟨h.f.step p,hb2,p.own h.f (i:=0) WC WC h.o0,p.own h.f (i:=1) WC WC h.o1,hh2,Gg,p.own h.f (i:=4) WC WC h.o4,p.own h.f (i:=5) WC WC h.o5,h.aJ,Tr.all_append (p.trees h.t3) hT,p.trees h.t4,p.trees h.t5⟩
theorem cO.apB {w':World} {u' v':Value} {ql:List Ex} {s':dy}(h:cO c w0 gp g2 qc g4 g5 D r w u v ya s hd yi yh yo ti th eD)(hs:gK gp w u v w' u' v')(hp:eG c w0 gp r w' u' v' ql s') {t:Tr} {y:Ex}(ht:t.at_ w' (λ b=>(b < w0.heap.size\/w.heap.size<=b)/\Kp w' gp [u',v'] b) y):t.at_ w' (λ b=>sW w' gp (PR u' v' r) b/\(b < w0.heap.size\/w.heap.size<=b)/\Kp w' gp [u',v'] b) y:=by have p:=(h.call hs hp).f;refine Tr.at_.keep (λ b hb=>⟨λ _=>rfl,⟨hb.2.1,hb.2.2.1,λ i hi e=>?_⟩,hb⟩) t y ht;exact Zb9
theorem CS.QT {R R':Nat->Value} {T:Nat->Prop} {w':World} {q:Nat}(p:CS w0 gp R R' T w w') {ts:List Tr} {ys:List Ex}(h:Tr.aO w (λ b=>sW w gp R b/\b≠q) ts ys):Tr.aO w' (λ b=>sW w' gp R' b/\b≠q) ts ys:=Tr.aO.keep (λ b hb=>⟨λ o=>bI (p.keep hb.1) o,p.kp hb.1,hb.2⟩) ts ys h
theorem cO.aside (h:cO c w0 gp g2 qc g4 g5 D r w u v ya s hd yi [] [] ti [] []) {q:Nat}(hg:w.grownBy w1 (some q))(hl:w0.heap.size<=q)(hk:sW w gp (PR u v r) q)(hn:q≠g2/\q≠g4/\q≠g5/\q≠D)(ht:Tr.aO w (λ b=>sW w gp (PR u v r) b/\b≠q) ti yi):cO c w0 gp g2 qc g4 g5 D r w1 u v ya s hd yi [] [] ti [] []:=by
 have hb:=λ b (h1:b < w.heap.size) (h2:b≠q)=>hg.block b h1 (λ e=>by injection e with e;exact h2 e)
 have hkp:∀b,sW w gp (PR u v r) b->sW w1 gp (PR u v r) b:=λ b k=>⟨Nat.lt_of_lt_of_le k.1 hg.size,k.2⟩
 have hf:=h.f;have ho:∀ {α:Type} {f:α->List Value} {e:TypeId} {size base:Nat} {l:List α} {x:Value},aI f e size w base x l->x.ownBlock≠some q->aI f e size w1 base x l:=λ o hx=>o.grown hg hx
 refine⟨⟨hf.low,Nat.lt_of_lt_of_le hf.lt hg.size,Below.trans hf.base (xZ hg hf.base.size hl),λ i hi b hb=>⟨(hf.rows i hi b hb).1,Nat.lt_of_lt_of_le (hf.rows i hi b hb).2.1 hg.size,(hf.rows i hi b hb).2.2⟩,hf.ap,hkp _ hf.k2,hkp _ hf.k4,hkp _ hf.k5,hkp _ hf.kD,hf.new,(hb D hf.kD.1 (Ne.symm hn.2.2.2)).trans hf.dd,(hb g2 hf.k2.1 (Ne.symm hn.1)).trans hf.z2,(hb g4 hf.k4.1 (Ne.symm hn.2.1)).trans hf.z4,(hb g5 hf.k5.1 (Ne.symm hn.2.2.1)).trans hf.z5⟩,(hb gp hf.lt (Ne.symm hk.2.1)).trans h.blk,ho h.o0 (hk.2.2 0 WC),ho h.o1 (hk.2.2 1 WC),ho h.o2 (hk.2.2 2 WC),ho h.o3 (hk.2.2 3 WC),ho h.o4 (hk.2.2 4 WC),ho h.o5 (hk.2.2 5 WC),h.aJ,Tr.aO.keep (λ b k=>⟨λ o=>bI (hb b k.1.1 k.2) o,hkp b k.1⟩) _ _ ht,?_,?_⟩
 ·unfold Tr.aO;rfl
 ·unfold Tr.aO;rfl
end
def GL (g:Bool)(aL:List Tr)(cols:List aX)(q:Qy)(s:dy):Except Int (List Tr×List Tr×dy):=
 match dz g aL cols q.eU s with
 | .error e=> .error e
 | .ok (hs,s2)=>match eu g aL cols q.ord s2 with
   | .error e=> .error e
   | .ok (os,s3)=> .ok (hs,os,s3)
def wT (g:Bool)(aL:List Tr)(cols:List aX)(q:Qy)(s:dy):Except Int (List Tr×List aX×List Tr×List Tr×dy):=
 match dm g aL cols q.items s with
 | .error e=> .error e
 | .ok (is,hd,s1)=>match GL g aL cols q s1 with
   | .error e=> .error e
   | .ok (hs,os,s3)=> .ok (is,hd,hs,os,s3)
def zq (l:List Tr)(m:List aX):Except Int (List Tr×List aX×dy)->Except Int (List Tr×List aX×dy)
 | .error e=> .error e
 | .ok (ys,hd,s)=> .ok (l++ys,m++hd,s)
theorem Wm (x:Except Int (List Tr×List aX×dy)):zq [] [] x=x:=by exact Zg6
theorem QU(l:List Tr)(m:List aX)(y:Tr)(cl:aX) {x x':Except Int (List Tr×List aX×dy)}(h:x'=(match x with | .error e=> .error e | .ok (ys,hd,s)=> .ok (y::ys,cl::hd,s))):zq l m x'=zq (l++ [y]) (m++ [cl]) x:=by
 rw[h]
 cases x with
 | error e=>rfl
 | ok p=>obtain⟨ys,hd,s⟩:=p;show Except.ok (l++y::ys,m++cl::hd,s)=Except.ok ((l++ [y])++ys,(m++ [cl])++hd,s);rw[append_assoc,append_assoc];rfl
theorem Q7{t:Tr} {x:Ex}(h:t.at_ w S x):x.op=t.op/\x.name=t.name:=by
 cases t with
 | mk op v name width args=>unfold Tr.at_ at h;exact⟨h.1,h.2.2.1⟩
variable{b:ByteArray}
theorem MQ(h:b.toList=[]):b.size=0:=by
 unfold ByteArray.toList ByteArray.toList.loop at h;split at h
 ·exfalso
  have:∀i r,(ByteArray.toList.loop b i r).length≥r.length:=by
   intro i r
   fun_induction ByteArray.toList.loop b i r with
   | case1 i r hi ih=>simp at ih;omega
   | case2=>simp
  have h2:=this 1 [b.get! 0];rw[h] at h2;simp at h2
 ·omega
theorem Q8:(⟨#[]⟩:ByteArray).toList=[]:=by unfold ByteArray.toList ByteArray.toList.loop;rfl
theorem apD(h:b.size=0):b=⟨#[]⟩:=by
 cases b with
 | mk d=>have h:d.size=0:=h;rw[Array.eq_empty_of_size_eq_zero h]
theorem zbR.Kam(h:p:=by go_wp2_with fail;exact HE.ae er _ _ (by unfold wT;rw[<- HB.ae,ox.ae]) nJ.ae ⟨rfl,rfl,rfl⟩ HW.ae):p:=h
theorem zfu.Kbe(h:p:=by go_upto_region 31 with fail;generalize w6.alloc (.cells (ay Kx) 46)=WD at*;obtain⟨_,_,_,uR,_,_,b4,b5,_⟩:=HW.ae;open zbR in exact ZaE):p:=h
theorem zfx.Kbf(h:p:=by
 have zW:=aa HX;clear HX;have tE:aB WD g16 48 #[ag x.op,ag x.v.k,af x.v.n,.string x.v.s,.string x.name,af x.width,.slice x.A x.n x.c,.string nm]:=Ck.ae;have z0:=tE.cell 0;have x4:=tE.cell 4;have x7:=tE.cell 7;have fx:=tE.frozen;simp only[Uaa] at z0 x4 x7;clear tE;go_wp2_with fail
 ·rename_i iR hop;have apH:nm.size=0:=MQ iR;have xN:=aa (show X=zq (ti++ [t2]) (jV++ [⟨x.name,ty⟩]) (dm c.aK c.aL c.cols (q.items.drop (k+1)) s2) by
   rw[EF.ae]
   have h2:t.op=2:=by rw[<-(Q7 xe.ae).1];exact of_decide_eq_true hop
   rw[show gZ t nm=x.name by unfold gZ;rw[if_pos ⟨apH,h2⟩,(Q7 xe.ae).2]])
  clear EF iR hop apH;have hg:=aC (aR (Below.refl WD.heap.size WD):WD.grownBy WD (some g16)) 7 (.string x.name);have K1:=aa (sQ.ae.aside hg aiT.ae.1 Mr.ae aiT.ae.2 HT7.ae);have jS:∀b,b < WD.heap.size->b≠g16->(WD.setCell ⟨g16,7,none⟩ (.string x.name)).heap[b]?=WD.heap[b]?:=λ b h1 h2=>hg.block b h1 (λ e=>by injection e with e;exact h2 e)
  have xM:=aa (show Tr.aO (WD.setCell ⟨g16,7,none⟩ (.string x.name)) (sW (WD.setCell ⟨g16,7,none⟩ (.string x.name)) gp (PR u' v' { r with h:=rh,i:=ri })) [t2] [Kx] from Tr.aO.keep (λ b KK=>⟨λ o=>bI (jS b KK.1.1 KK.2) o,Nat.lt_of_lt_of_le KK.1.1 hg.size,KK.1.2⟩) _ _ adK.ae);have HYB:=aa (show aB (WD.setCell ⟨g16,7,none⟩ (.string x.name)) gY 46 (bH Kx).toArray from(jS gY Tt.ae.1 (Ne.symm Xw.ae)).trans NC.ae);have tL:=aa (show sW (WD.setCell ⟨g16,7,none⟩ (.string x.name)) gp (PR u' v' { r with h:=rh,i:=ri }) g16 from⟨Nat.lt_of_lt_of_le Mr.ae.1 hg.size,Mr.ae.2⟩);have Wt:=aa (show sW (WD.setCell ⟨g16,7,none⟩ (.string x.name)) gp (PR u' v' { r with h:=rh,i:=ri }) gY from⟨Nat.lt_of_lt_of_le Tt.ae.1 hg.size,Tt.ae.2⟩);have pU:=aa (show(WD.setCell ⟨g16,7,none⟩ (.string x.name)).cell? ⟨g16,7,none⟩=some (.string x.name) by
   have tE:aB WD g16 48 #[ag x.op,ag x.v.k,af x.v.n,.string x.v.s,.string x.name,af x.width,.slice x.A x.n x.c,.string nm]:=Ck.ae
   rw[(tE.aT 7 (.string x.name)).cell]
   rfl)
  clear sQ GK NC HT7 adK fx z0 x4 x7 Ck Mr Tt jS hg;generalize World.setCell WD _ _=WB at*;have HOi:=aa K1.ae.o3;have HOh:=aa K1.ae.o2;have HLi:=aa (show yi.length<=1000000 by have:=HFN.ae;have:=qE.ae;have:=VH.ae;have:=zW.ae;omega);have HLh:=aa (show(hd++jV).length<=1000000 by have:=Q3.ae;have:=HFN.ae;have:=qE.ae;have:=VH.ae;rw[length_append];omega);have key:=λ(T:Array Value) (hT:T.size=252) e0 e1 e2 e3 (Q2:Exit->Act->World->Prop) hf=>Ds (T:=T) (d:=d) (Q:=Q2) (gp:=gp) (B:=w0.heap.size) (gY:=gY) (g16:=g16) (W:=WB) (cs:=c.cells { r with h:=rh,i:=ri } u' v') (ri:=ri) (rh:=rh) (yi:=yi) (y:=Kx) (hd:=hd++jV) (nm:=x.name) (ty:=ty) hT e0 e1 e2 e3 rfl rfl K1.ae.f.base.size K1.ae.blk HOi.ae HOh.ae HLi.ae HLh.ae HYB.ae Wt.ae.2.1 (Wt.ae.2.2 3 WC) (Wt.ae.2.2 2 WC) pU.ae tL.ae.1 tL.ae.2.1 (tL.ae.2.2 3 WC) (tL.ae.2.2 2 WC) hf
  simp only[Dr,bK,fy,Tryz.f28,Option.getD_some,rW,Nat.reduceEqDiff,if_true,if_false] at key;refine key _ ?_ ?_ ?_ ?_ ?_ _ ?_
  ·rfl
  ·rfl
  ·rfl
  ·rfl
  ·rfl
  clear key;intro adr ads z167 z168 adt adu z171 adw z173 adx z175 ady adz adA adB adC adD z182 z183 adE adF adG adH w8 a b9 s7 EH yu;simp only[Uac];have P8:=aa (K1.ae.QS yu (mz xM.ae));clear yu K1 HYB pU xM HOi HOh;generalize World.setCell w8 _ _=Nx at*;have hk7:k < 1000000:=by have:=HFN.ae;have:=VH.ae;omega
  go_wp2_with fail;go_roundw;case rel=>exact⟨k+1,b9,a,u',v',G7,yi++ [Kx],s2,ti++ [t2],jV++ [⟨x.name,ty⟩],hlt,by go_num,by
   have h:=P8.ae
   rw[append_assoc] at h
   exact h,xN.ae,by have:=zh.ae;have:=HND.ae;have:=Dp.ae;omega,by rw[length_append,qE.ae.1];rfl,by rw[length_append,qE.ae.2];rfl⟩
  case measure=>exact Za1
 ·rename_i iR hop;have xN:=aa (show X=zq (ti++ [t2]) (jV++ [⟨nm,ty⟩]) (dm c.aK c.aL c.cols (q.items.drop (k+1)) s2) by
   rw[EF.ae]
   have h2:¬t.op=2:=by rw[<-(Q7 xe.ae).1];exact of_decide_eq_false hop
   rw[show gZ t nm=nm by unfold gZ;rw[if_neg (λ h=>h2 h.2)]])
  clear EF iR hop;exact Zam
 ·rename_i iR;have xN:=aa (show X=zq (ti++ [t2]) (jV++ [⟨nm,ty⟩]) (dm c.aK c.aL c.cols (q.items.drop (k+1)) s2) by
   rw[EF.ae]
   rw[show gZ t nm=nm by unfold gZ;rw[if_neg (λ h=>iR (by rw[apD h.1];exact Q8))]])
  clear EF iR;exact Zam):p:=h
theorem zeg.KaN(h:p:=by
 go_wp2_with fail;clear z0 z1 x2 x3 x4 x5 x6;refine(CO c w0 gp { r with h:=rh,i:=ri } t x s1 u1 v1 Ji W2 IH.ae kz.ae xe.ae tU.ae.ps TaO).mono ?_;intro e w6 hp;have vg:=aa (lM c.aK c.aL c.cols t s1)
 cases hr:pd c.aK c.aL c.cols t s1 with
 | error er=>
   open zfu in exact Zdb
 | ok p=>
   obtain⟨t2,ty,s2⟩:=p;have aiU:=uY.ae;rw[hr] at hp vg aiU;obtain⟨Kx,u',v',G7,rfl,uH,pK,hst⟩:=hp;have rU:=tU.ae.call hst pK;have Wl:=tU.ae.tree hst pK uH;have nX:=tU.ae.stp hst pK;have apG:t2.at_ w6 (λ b=>sW w6 gp (PR u' v' { r with h:=rh,i:=ri }) b/\(b < w0.heap.size\/W2.heap.size<=b)/\Kp w6 gp [u',v'] b) Kx:=cO.apB tU.ae hst pK uH;have bg:=ah w6 (.cells (ay Kx) 46);have XH:=aB.new w6 46 (ay Kx);have sQ:=aa (rU.later bg);have hpl:=CS.later (w0:=w0) (gp:=gp) (R:=PR u' v' { r with h:=rh,i:=ri }) bg;have GK:=aa (hpl.trees (Tr.fL Wl));have HT7:=aa (hpl.QT (nX.QT apE.ae));have adK:=aa (show Tr.aO (w6.alloc (.cells (ay Kx) 46)) (λ b=>sW (w6.alloc (.cells (ay Kx) 46)) gp (PR u' v' { r with h:=rh,i:=ri }) b/\b≠g16) [t2] [Kx] from hpl.QT (Tr.fL (Tr.at_.keep (λ b KK=>⟨λ _=>rfl,KK.1,λ e=>by
    rcases KK.2.1 with h | h
    ·have:=aiT.ae.1;omega
    ·have:=Wp.ae.1;omega⟩) t2 Kx (apG))))
   have Mr:=aa (hpl.kp (nX.kp Wp.ae));have Ck:=aa ((hpl.keep (nX.kp Wp.ae)).trans ((nX.keep Wp.ae).trans Aw.ae));have Tt:=aa (show sW (w6.alloc (.cells (ay Kx) 46)) gp (PR u' v' { r with h:=rh,i:=ri }) w6.heap.size from⟨XH.lt,by have:=rU.f.lt;omega,λ i hi e=>by have:=(rU.f.rows i hi _ e).2.1;omega⟩);have Xw:=aa (show g16≠w6.heap.size from λ e=>by have:=(nX.kp Wp.ae).1;omega);have Dp:=aa (vg.ae.len _ _ _ rfl);have EF:=aa (show X=zq (ti++ [t2]) (jV++ [⟨gZ t nm,ty⟩]) (dm c.aK c.aL c.cols (q.items.drop (k+1)) s2) by
    rw[uI.ae,aiU]
    exact QU ti jV t2 ⟨gZ t nm,ty⟩ rfl)
   have HX:=rU.t3.length;clear hr aiU hst pK uH apG rU Wl bg vg uY uI tU nX hpl Wp Aw apE;go_upto_region 31 with fail;open zfx in exact Zdc):p:=h
theorem zcU.Kax(h:p:=by
 have jI:=aa Gp;have HQN:=aa Qs;have aie:=aa kN;have HB:=aa hX;have VH:=aa eU;have HP:=aa hP;have b2:=hP.f.z2;unfold eJ at b2;have z6:=b2.cell 0;simp only[Uaa] at z6;rw[hn,<- eU] at z6;clear hE hF ih q1 q2 q3 q4 q5 Av Tp B3 hz Nk Gp Qs kN hX hP b2 hn eU;simp only[bK,fy,Tryz.f28,Option.getD_some];go_wp2_with fail;clear z6;go_loopw [137] (λ i wr=>∃(k:Nat) (rh ri u1 v1:Value) (Ji yi:List Ex) (s1:dy) (ti:List Tr) (jV:List aX),k<=zs.length/\i=af k/\cO c w0 gp g2 (eJ q L) g4 g5 D { r with h:=rh,i:=ri } wr u1 v1 Ji s1 (hd++jV) yi [] [] ti [] []/\X=zq ti jV (dm c.aK c.aL c.cols (q.items.drop k) s1)/\s1.aL.length+s1.aJ.length+2*Tr.aQ ((q.items.map (·.1)).drop k)+(2*Tr.aQ q.eU+2*Tr.aQ (q.ord.map (·.1)))<=1000000/\ti.length=k/\jV.length=k) (λ i _=>zs.length - (intOf i).toNat);case atStart=>exact⟨0,r.h,r.i,u,v,ya,[],s,[],[],Nat.zero_le _,rfl,by rw[append_nil];exact HP.ae,by rw[drop_zero,Wm];exact HB.ae,by rw[drop_zero];exact aie.ae,rfl,rfl⟩
 case round=>
  rename_i K hK;clear HP;obtain⟨k,rh,ri,u1,v1,Ji,yi,s1,ti,jV,hk,rfl,hP,Ts,kN,Td,hhl⟩:=hrel;have uI:=aa Ts;have zh:=aa kN;have HP:=aa hP;have qE:=aa (And.intro Td hhl);clear Ts kN hP Td hhl;by_cases hlt:k < zs.length
  ·have fG:k < q.items.length:=by rw[<- VH.ae];exact hlt
   obtain⟨b,off,hA,Ch,hcell⟩:∃b off,L.i.A=some ⟨b,off,none⟩/\b < w0.heap.size/\cw w0 b (off+k*8) zs[k].1/\w0.cell? ⟨b,off+k*8+7,none⟩=some zs[k].2:=by
    rcases GI.ae with h |⟨b,off,h1,h2,h3⟩
    ·exact Ze4
    ·exact Zeg
   have hb8:zs[k].2=.string (q.items[k]'fG).2:=by have h1:=congrArg (λ l=>l[k]?) F7.ae;simp only[getElem?_map,getElem?_eq_getElem hlt,getElem?_eq_getElem fG,Option.map_some] at h1;injection h1
   have rM:(q.items[k]'fG).1.at_ w0 (Old w0) zs[k].1:=by
    have hl2:k <((q.items.map λ x=>(x.1,Value.string x.2)).map (·.1)).length:=by simpa using fG
    obtain⟨Kx,h1,h2⟩:=pJ hl2 jI.ae;exact Zfg
   have fU:(q.items[k]'fG).1.ok:=dL.1 Q1.ae _ (mem_map_of_mem (getElem_mem fG));have Z3:Tr.aQ ((q.items.map (·.1)).drop k)=(q.items[k]'fG).1.nodes+Tr.aQ ((q.items.map (·.1)).drop (k+1)):=by have h1:=uQ (ts:=q.items.map (·.1)) (k:=k) (by simpa using fG);simpa using h1
   have hdr:dm c.aK c.aL c.cols (q.items.drop k) s1=(match pd c.aK c.aL c.cols (q.items[k]'fG).1 s1 with
     | .error e=> .error e
     | .ok (Kx,k2,s')=>match dm c.aK c.aL c.cols (q.items.drop (k+1)) s' with
       | .error e=> .error e
       | .ok (ys,hd,Lb)=> .ok (Kx::ys,⟨gZ (q.items[k]'fG).1 (q.items[k]'fG).2,k2⟩::hd,Lb)):=by
    rw[drop_eq_getElem_cons fG];obtain⟨t,bb⟩:=q.items[k];rfl
   rw[hb8] at hcell;generalize zs[k].1=x at*;generalize (q.items[k]'fG).2=nm at*;generalize (q.items[k]'fG).1=t at*;obtain⟨hex,h7⟩:=hcell;have iB:=hex.keep (λ o=>HP.ae.f.base.cell (p:=⟨b,o,none⟩) Ch);have h72:=(HP.ae.f.base.cell (p:=⟨b,off+k*8+7,none⟩) Ch).trans h7;unfold cw at iB;have xe:=aa rM;have kz:=aa fU;have HND:=aa Z3;have uY:=aa hdr;have HAA:=aa hA;rw[hA];clear hex h7 rM fU Z3 hdr hA Ch hb8 fG;go_upto_region 30 with fail;clear iB h72;have hb:=aB.new wr 48 #[ag x.op,ag x.v.k,af x.v.n,.string x.v.s,.string x.name,af x.width,.slice x.A x.n x.c,.string nm];have adJ:=ah wr (.cells #[ag x.op,ag x.v.k,af x.v.n,.string x.v.s,.string x.name,af x.width,.slice x.A x.n x.c,.string nm] 48);generalize wr.alloc (.cells #[ag x.op,ag x.v.k,af x.v.n,.string x.v.s,.string x.name,af x.width,.slice x.A x.n x.c,.string nm] 48)=W2 at*;have tU:=aa (HP.ae.later adJ);have Wp:=aa (show sW W2 gp (PR u1 v1 { r with h:=rh,i:=ri }) wr.heap.size from⟨hb.lt,by have:=HP.ae.f.lt;omega,λ i hi e=>by have:=(HP.ae.f.rows i hi _ e).2.1;omega⟩);have aiT:=aa (show w0.heap.size<=wr.heap.size/\wr.heap.size≠g2/\wr.heap.size≠g4/\wr.heap.size≠g5/\wr.heap.size≠D from⟨HP.ae.f.base.size,by have:=HP.ae.f.k2.1;omega,by have:=HP.ae.f.k4.1;omega,by have:=HP.ae.f.k5.1;omega,by have:=HP.ae.f.kD.1;omega⟩);have apE:=aa (show Tr.aO W2 (λ b=>sW W2 gp (PR u1 v1 { r with h:=rh,i:=ri }) b/\b≠wr.heap.size) ti yi from Tr.aO.keep (λ b KK=>⟨λ o=>adJ.cell (p:=⟨b,o,none⟩) KK.1,⟨Nat.lt_of_lt_of_le KK.1 adJ.size,KK.2⟩,by have:=KK.1;omega⟩) _ _ HP.ae.t3)
   generalize wr.heap.size=g16 at*;clear HP adJ;open zeg in exact Zb0
  ·have fH:k=zs.length:=by omega
   have P9:=aa (show X=.ok (ti,jV,s1) by
    rw[uI.ae,fH,VH.ae,drop_length]
    show Except.ok (ti++ [],jV++ [],s1)=_
    rw[append_nil,append_nil])
   have avA:(q.items.map (·.1)).drop k=[]:=drop_eq_nil_of_le (by have:=VH.ae;rw[length_map];omega);subst fH
   have key:∀T:Array Value,T.size=252->T.getD 2 undef=aw g2->T.getD 4 undef=aw g4->T.getD 5 undef=aw g5->T.getD 6 undef=aw gp->(fy bK 8).wp Tryz.prog Q { tmps:=T,defers:=d } wr:=λ T hT h2 h4 h5 h6=>
    QQ c w0 gp g2 g4 g5 D q L { r with h:=rh,i:=ri } u1 v1 Ji s1 (hd++jV) yi ti T hT h2 h4 h5 h6 d wr Q IH.ae Q4.ae Q5.ae oz.ae E1.ae Ai.ae HQN.ae (by have:=zh.ae;rw[avA] at this;omega) HP.ae
     (λ er a W he hne ha hw=>HE.ae er a W (by
       have h:GL c.aK c.aL c.cols q s1=.error er:=by
        unfold GL
        rcases he with he |⟨th,s',h1,h2⟩
        ·rw[he]
        ·rw[h1]
         dsimp only
         rw[h2]
       unfold wT
       rw[<- HB.ae,P9.ae]
       dsimp only
       rw[h]) hne ha hw)
     (λ a W r' u' v' ql s2 s' yh yo th eD h1 h2 ha hp=>HF.ae a W r' u' v' ql s' jV yi yh yo ti th eD (by
       have h:GL c.aK c.aL c.cols q s1=.ok (th,eD,s'):=by
        unfold GL
        rw[h1]
        dsimp only
        rw[h2]
       unfold wT
       rw[<- HB.ae,P9.ae]
       dsimp only
       rw[h]) ha hp)
   exact Zcb):p:=h
theorem zeY.Ka2(h:p:=by
 obtain⟨hn,zs,hz,Nk,Gp⟩:=XM;rw[length_map] at hn;have eU:zs.length=q.items.length:=by have:=congrArg List.length Nk;simpa using this
 obtain⟨X,hX⟩:∃X,X=dm c.aK c.aL c.cols q.items s:=⟨_,rfl⟩;have HE:=aa hE;open zcU in exact Zbd):p:=h
theorem Wo (c:PC)(w0:World)(gp g2 g4 g5 D:Nat)(q:Qy)(L:QL)(r:Rest)(u v:Value)(ya:List Ex)(s:dy)(hd:List aX)(T:Array Value)(hT:T.size=252)
  (h2:T.getD 2 undef=aw g2) (h4:T.getD 4 undef=aw g4) (h5:T.getD 5 undef=aw g5) (h6:T.getD 6 undef=aw gp) (d:List Deferred) (w:World) (Q:Exit->Act->World->Prop)
  (ih:c.Ok w0) (q1:Tr.cN (q.items.map (·.1))) (XM:eO w0 (q.items.map λ x=>(x.1,.string x.2)) L.i.A L.i.n) (q2:q.items.length<=100000) (q3:hd.length<=100000)
  (q4:Tr.cN q.eU) (q5:gI w0 q.eU L.h.A L.h.n) (Av:q.eU.length<=1000000) (Tp:Tr.cN (q.ord.map (·.1))) (B3:eO w0 (q.ord.map λ x=>(x.1,.bool x.2)) L.o.A L.o.n) (Qs:q.ord.length<=1000000) (kN:s.aL.length+s.aJ.length+2*Tr.aQ (q.items.map (·.1))+(2*Tr.aQ q.eU+2*Tr.aQ (q.ord.map (·.1)))<=1000000)
  (hP:cO c w0 gp g2 (eJ q L) g4 g5 D r w u v ya s hd [] [] [] [] [] [])
  (hE:∀er a W,wT c.aK c.aL c.cols q s=.error er->er≠0->qp a d g4 g5->wS w0 g4 g5 D W->Q .ret a (jf W g4 g5 er))
  (hF:∀a W r' u' v' ql s' vk yi yh yo ti th eD,wT c.aK c.aL c.cols q s=.ok (ti,vk,th,eD,s')->qp a d g4 g5->cO c w0 gp g2 (eJ q L) g4 g5 D r' W u' v' ql s' (hd++vk) yi yh yo ti th eD->Q .ret a (jt W g4 g5 gp)):
  (fy bK 7).wp Tryz.prog Q { tmps:=T,defers:=d } w:=by
 open zeY in exact ZcA
variable{α:Type}{f:α->List Value}{e:TypeId}{base:Nat}
theorem oh{size:Nat} :aI f e size w base (az) []:=⟨by simp,.inl ⟨rfl,rfl⟩⟩
section
variable {c:PC} {w0 w:World} {gp g2 g4 g5 D:Nat} {qc:Array Value} {r:Rest} {u v:Value} {ya:List Ex} {s:dy} {hd:List aX} {yi yh yo:List Ex} {ti th eD:List Tr}
theorem cO.apL (h:cO c w0 gp g2 qc g4 g5 D r w u v ya s hd yi yh yo ti th eD):cO c w0 gp g2 qc g4 g5 D { r with h:=az } (w.setCell ⟨gp,12,none⟩ (az)) u v ya s [] yi yh yo ti th eD:=by
 have hf:=λ k (hk:k≠gp)=>Below.heap_setCell w ⟨gp,12,none⟩ (az) k hk
 have p:CS w0 gp (PR u v r) (PR u v { r with h:=az }) (λ i=>i=2) w (w.setCell ⟨gp,12,none⟩ (az)):=by
  refine⟨rfl,rfl,rfl,by rw[World.size_setCell];exact Nat.le_refl _,λ k h1 h2 h3=>hf k h2,?_,?_,Zft,?_⟩
  ·intro i hi hT
   match i with
   | 0 | 1 | 3 | 4 | 5=>rfl
   | 2=>exact absurd rfl hT
   | n+6=>omega
  ·intro i hi hT;subst hT;exact .inr λ q hq=>by cases hq
  ·intro i hi hT q hq;subst hT;cases hq
 exact⟨h.f.step p,h.blk.aT 12 _,p.own h.f (i:=0) WC WC h.o0,p.own h.f (i:=1) WC WC h.o1,oh,p.own h.f (i:=3) WC WC h.o3,p.own h.f (i:=4) WC WC h.o4,p.own h.f (i:=5) WC WC h.o5,h.aJ,p.trees h.t3,p.trees h.t4,p.trees h.t5⟩
end
def zr (g:Bool)(aL:List Tr)(cols:List aX)(q:Qy)(s:dy):Except Int (List Tr×List aX×List Tr×List Tr×dy):=if q.items=[]/\g=true then .error 42 else wT g aL cols q s
theorem zbS.Kam(h:p:=by go_wp2_with fail;exact HE.ae 42 _ _ HR.ae Tab ⟨rfl,rfl,rfl⟩ HW.ae):p:=h
theorem zeZ.Ka2(h:p:=by
 have key:∀(r':Rest) (SY:List aX) (w':World),(q.items=[]->c.aK=false)->SY=(if q.items=[] then hd else [])->cO c w0 gp g2 (eJ q L) g4 g5 D r' w' u v ya s SY [] [] [] [] [] []->∀T:Array Value,T.size=252->T.getD 2 undef=aw g2->T.getD 4 undef=aw g4->T.getD 5 undef=aw g5->T.getD 6 undef=aw gp->(fy bK 7).wp Tryz.prog Q { tmps:=T,defers:=d } w':=λ r' SY w' hg e hp T hT h2 h4 h5 h6=>
  have hR:zr c.aK c.aL c.cols q s=wT c.aK c.aL c.cols q s:=if_neg λ h=>by have h1:=h.2;rw[hg h.1] at h1;cases h1
  Wo c w0 gp g2 g4 g5 D q L r' u v ya s SY T hT h2 h4 h5 h6 d w' Q aZ hqi XM EI (by
   rw[e]
   split
   ·exact Q6
   ·exact Nat.zero_le _) Q0 hih Dq Tp uu Tq hlen hp (λ er a W he=>hE er a W (hR.trans he)) (λ a W r' u' v' ql s' vk yi yh yo ti th eD he ha hp=>hO a W r' u' v' ql s' vk yi yh yo ti th eD (hR.trans he) ha (e▸hp))
 simp only[bK,fy,Tryz.f28,Option.getD_some] at key;have b2:=hP.f.z2;have bg:=hP.blk;unfold eJ at b2;unfold PC.cells at bg;have c0:=b2.cell 0;have c11:=bg.cell 11;have c12:=bg.cell 12;have f12:=bg.frozen 12;simp only[Uaa] at c0 c11 c12;have hn:L.i.n=q.items.length:=by rw[XM.n,length_map]
 have apM:=hP.f.P6;have HP:=aa hP;have HE:=aa hE;have HW:=aa apM;have KEY:=aa key;rw[hn] at c0;clear hE hO aZ hqi XM Q6 Q0 hih Dq Tp uu Tq hlen hP b2 bg hn apM key;simp only[bK,fy,Tryz.f28,Option.getD_some];refine wp_seq_k λ K hK=>?_
 have HK:=aa (show∀(r':Rest) (SY:List aX) (w':World),(q.items=[]->c.aK=false)->SY=(if q.items=[] then hd else [])->cO c w0 gp g2 (eJ q L) g4 g5 D r' w' u v ya s SY [] [] [] [] [] []->∀T:Array Value,T.size=252->T.getD 2 undef=aw g2->T.getD 4 undef=aw g4->T.getD 5 undef=aw g5->T.getD 6 undef=aw gp->K { tmps:=T,defers:=d } w' from λ r' SY w' h1 h2 h3 T a1 a2 a3 a4 a5=>hK _ _ (KEY.ae r' SY w' h1 h2 h3 T a1 a2 a3 a4 a5));clear hK KEY
 cases hi:q.items with
 | nil=>
   rw[hi] at c0
   cases hg:c.aK with
   | true=>rw[hg] at c11;have HR:=aa (show zr c.aK c.aL c.cols q s=.error 42 from if_pos ⟨hi,hg⟩);clear hi hg EI;obtain⟨_,_,_,uR,_,_,b4,b5,_⟩:=HW.ae;open zbS in exact ZaE
   | false=>rw[hg] at c11;have HI:=aa hi;have HG:=aa hg;clear hi hg EI;go_wp2_with fail;refine HK.ae r hd w (λ _=>HG.ae) (by rw[if_pos HI.ae]) HP.ae _ ?_ ?_ ?_ ?_ ?_ <;> rfl
 | cons i0 il=>
   rw[hi,length_cons] at c0;have HI:=aa hi;rw[hi,length_cons] at EI;clear hi;have hlt:(0:Int)<((il.length+1:Nat):Int):=by omega
   go_wp2_with fail;refine HK.ae _ [] _ (λ h=>by rw[HI.ae] at h;cases h) (by rw[HI.ae];rfl) HP.ae.apL _ ?_ ?_ ?_ ?_ ?_ <;> rfl):p:=h
theorem Q9 (c:PC)(w0:World)(gp g2 g4 g5 D:Nat)(q:Qy)(L:QL)(r:Rest)(u v:Value)(ya:List Ex)(s:dy)(hd:List aX)(T:Array Value)(hT:T.size=252)
  (h2:T.getD 2 undef=aw g2) (h4:T.getD 4 undef=aw g4) (h5:T.getD 5 undef=aw g5) (h6:T.getD 6 undef=aw gp) (d:List Deferred) (w:World) (Q:Exit->Act->World->Prop)
  (aZ:c.Ok w0) (hqi:Tr.cN (q.items.map (·.1))) (XM:eO w0 (q.items.map λ x=>(x.1,.string x.2)) L.i.A L.i.n) (EI:q.items.length<=100000) (Q6:hd.length<=100000)
  (Q0:Tr.cN q.eU) (hih:gI w0 q.eU L.h.A L.h.n) (Dq:q.eU.length<=1000000) (Tp:Tr.cN (q.ord.map (·.1))) (uu:eO w0 (q.ord.map λ x=>(x.1,.bool x.2)) L.o.A L.o.n) (Tq:q.ord.length<=1000000) (hlen:s.aL.length+s.aJ.length+2*Tr.aQ (q.items.map (·.1))+(2*Tr.aQ q.eU+2*Tr.aQ (q.ord.map (·.1)))<=1000000)
  (hP:cO c w0 gp g2 (eJ q L) g4 g5 D r w u v ya s hd [] [] [] [] [] [])
  (hE:∀er a W,zr c.aK c.aL c.cols q s=.error er->er≠0->qp a d g4 g5->wS w0 g4 g5 D W->Q .ret a (jf W g4 g5 er))
  (hO:∀a W r' u' v' ql s' vk yi yh yo ti th eD,zr c.aK c.aL c.cols q s=.ok (ti,vk,th,eD,s')->qp a d g4 g5->cO c w0 gp g2 (eJ q L) g4 g5 D r' W u' v' ql s' ((if q.items=[] then hd else [])++vk) yi yh yo ti th eD->Q .ret a (jt W g4 g5 gp)):
  (fy bK 6).wp Tryz.prog Q { tmps:=T,defers:=d } w:=by
 open zeZ in exact ZcA
def aiV (gp B:Nat)(w1:World)(vv:Value)(l:List aX)(nm:ByteArray)(ty:Int)(k:Nat):Nat->World->Value->Prop
 | 0,_,v=>v=aw gp
 | 1,_,v=>v=aw gp
 | 2,_,v=>v=aw gp
 | 3,_,v=>v=bh gp 10
 | 4,_,v=>v=vv
 | 5,_,v=>v=af (k:Int)
 | 6,_,v=>v=.agg #[ag 2,ag 0,af 0,au,.string nm,af 0,az]
 | 7,_,v=>v=.string nm
 | 8,_,v=>v=ag ty
 | 9,_,v=>v=.agg #[.string nm,ag ty]
 | 10,w,v=>∃q:Nat,v=aH q 1 1/\aB w q 113 (aS ⟨nm,ty⟩).toArray/\vv.ownBlock≠some q
 | 11,w,v=>∃q:Value,v=q/\aI aS 113 2 w B q (l++ [⟨nm,ty⟩])/\Mv w1 vv q
 | 12,_,v=>v=aw gp
 | 13,_,v=>v=bh gp 10
 | _,_,_=>False
theorem QV (gp B:Nat)(w1:World)(vv:Value)(l:List aX)(nm:ByteArray)(ty:Int)(k:Nat):∀i w w' x,aiV gp B w1 vv l nm ty k i w x->AR aS 113 2 B vv l ⟨nm,ty⟩ w w'->aiV gp B w1 vv l nm ty k i w' x:=by
 intro i w w' x h hl
 match i with
 | 0 | 1 | 2 | 3 | 4 | 5 | 6 | 7 | 8 | 9 | 12 | 13=>exact h
 | 10=>exact ZeF
 | 11=>exact ZfQ
 | n+14=>exact h
def Tv (l:List aX):Except Int (List aX)->Except Int (List aX)
 | .error e=> .error e
 | .ok m=> .ok (l++m)
theorem Wu (x:Except Int (List aX)):Tv [] x=x:=by exact Zg6
theorem QW(l:List aX)(y:aX) {x x':Except Int (List aX)}(h:x'=(match x with | .error e=> .error e | .ok m=> .ok (y::m))):Tv l x'=Tv (l++ [y]) x:=by
 rw[h]
 cases x with
 | error e=>rfl
 | ok p=>show Except.ok (l++y::p)=Except.ok ((l++ [y])++p);rw[append_assoc];rfl
def wU (g:Bool)(aL:List Tr)(cols:List aX)(q:Qy):Except Int (List Tr×List aX×List Tr×List Tr×dy):=
 match kO cols q.aL 0 with
 | .error e=> .error e
 | .ok gc=>zr g aL cols q ⟨[],gc⟩
theorem zbX.Kam(h:p:=by exact ZgZ):p:=h
theorem zbq.Kag(h:p:=by
 clear k1;go_wp2_with fail;clear z0 z1 x2 x3 x4 x5 x6;have xa:=Tr.oO (cols:=c.cols) (CA:=c.cA) (cc:=c.cc) (by have:=IH.ae.cl;omega) t y W2 kz.ae (xe.ae.later tU.ae.f.base) (IH.ae.cols.later tU.ae.f.base);have Js:=uY.ae;generalize hR:t.type c.cols=R at*;obtain⟨ty,er⟩:=R;dsimp only at Js xa;refine(xa W2 (ai.refl _)).mono ?_;rintro e w6 ⟨rfl,hb6⟩;have sQ:=aa (tU.ae.later hb6);clear xa tU hb6 hR uY;by_cases HW:er=0
 ·subst HW;rw[if_neg Tab] at Js;have aiX:=aa Js;clear Js;obtain⟨nm,iR⟩:∃nm,nm=iX k:=⟨_,rfl⟩;have Sz:=aa iR;clear iR;have HK9:=aa (show k < 1000000 by have:=HFN.ae;have:=oz.ae;omega);have J0:=aa (show s1.aL.length<=1000000 by have:=HK9.ae;have:=qE.ae;omega);obtain⟨VA,vc,hv,_⟩:=sQ.ae.o1.reads;subst hv;go_wp2_with fail;obtain⟨WB,hWB⟩:∃WB,WB=w6:=⟨_,rfl⟩;have qu:=sQ;clear sQ;rw[<- hWB] at qu ⊢;refine fu _ _ (take_append_drop 14 _).symm (AR aS 113 2 w0.heap.size (Value.slice VA s1.aL.length vc) s1.aL ⟨nm,ty⟩) AR.refl (λ _ _ _=>AR.trans) AR.drew (aiV gp w0.heap.size WB (Value.slice VA s1.aL.length vc) s1.aL nm ty k) (λ i w w' y h hr=>QV _ _ _ _ _ _ _ _ _ _ _ _ h hr) Taa Taa Taa ?_ ?_
  ·simp only[take_succ_cons,take_zero];refine⟨Zb4,Zb4,Zb4,Zfc,?_,?_,?_,?_,?_,?_,?_,?_,Zb4,Zfc,trivial⟩
   ·intro ρ w3 hc hL hr;have h0:_=_:=hr.1;have jS:=dA qu.ae.blk qu.ae.o1 Tab hL.grown;exact Zdq
   ·intro ρ w3 hc hL hr;have h0:_=_:=hr.1;exact aq (v:=af (k:Int)) (w':=w3) Taj ⟨AR.refl _,rfl⟩
   ·intro ρ w3 hc hL hr;have h0:_=_:=hr.1;have e1:=hc.func 60;refine bj (f:=60) (args:= #[af (k:Int)]) (w':=w3) TaA ?_;refine(oY k WC (by have:=HK9.ae;omega) w3 (IH.ae.env.later (qu.ae.ps.afg hL.grown))).mono ?_;rintro e4 w4 ⟨rfl,b4⟩;refine⟨_,rfl,AR.later b4,?_⟩;show mA (KV k)=_;unfold mA KV;rw[Sz.ae]
   ·intro ρ w3 hc hL hr;have h0:_=_:=hr.1;have Hp:Sem.run Tryz.prog (Instr.field 46 (.agg #[ag 2,ag 0,af 0,au,.string nm,af 0,az]) 2) w3=.ok (.string nm) w3:=by first | kernel_rfl | rfl
    exact aq (v:=.string nm) (w':=w3) (by simp[go_sem,h0,Hp];done) ⟨AR.refl _,rfl⟩
   ·intro ρ w3 hc hL hr;have h0:_=_:=hr.1;exact aq (v:=ag ty) (w':=w3) Taj ⟨AR.refl _,rfl⟩
   ·intro ρ w3 hc hL hr;have h0:_=_:=hr.1;have h1:_=_:=hr.2.1;exact aq (v:=.agg #[.string nm,ag ty]) (w':=w3) TaM ⟨AR.refl _,rfl⟩
   ·intro ρ w3 hc hL hr;have h0:_=_:=hr.1;refine aq (v:=aH w3.heap.size 1 1) (w':=w3.alloc (.cells #[.string nm,ag ty] 113)) Tar ⟨AR.later (ah w3 _),⟨_,rfl,aB.new w3 _ _,λ e=>?_⟩⟩;have:=((hL.old qu.ae.o1).lt e).1;omega
   ·intro ρ w3 hc hL hr;have h0:_=_:=hr.1;obtain⟨KK,h1,uF,Jg⟩:∃q:Nat,ρ (.tmp 118)=aH q 1 1/\aB w3 q 113 (aS ⟨nm,ty⟩).toArray/\(Value.slice VA s1.aL.length vc).ownBlock≠some q:=hr.2.1;obtain⟨v',w',hrun,ho,yD,Ei⟩:=eM (P:=Tryz.prog) (w:=w3) 28 28 _ 24 Tryz.underlying28 rG rfl WC (λ _=>rfl) Ta0 (hL.old qu.ae.o1) KK uF (by have:=J0.ae;show(s1.aL.length+1)*24<=_;omega) (by have:=J0.ae;show s1.aL.length+1<=_;omega) (Nat.le_trans qu.ae.f.base.size hL.grown.size);exact ZbQ
  intro W3 hL;simp only[Uab];rintro a0 - a1 - a2 - a3 - a4 - a5 - a6 - a7 - a8 - a9 - FA - F8 ⟨aCr,rfl,R5,afT⟩ a12 - _ rfl;simp only[bE,Act.put,Uac];obtain⟨A4,Qg,hv4,_⟩:=R5.reads;rw[length_append,length_singleton] at hv4;subst hv4;have O4:=aa R5;have HM4:=aa afT;have F9:=aa hL.grown;have jS:=dA qu.ae.blk qu.ae.o1 Tab hL.grown;have f10:=jS.frozen 10;unfold PC.cells at jS;have c10:=jS.cell 10;simp only[Uaa] at c10;clear R5 afT jS hL;have P8:=aa (qu.ae.call (gK.F4 (gp:=gp) F9.ae HM4.ae (Value.slice A4 (s1.aL.length+1) Qg) 10) (qu.ae.ps.Qc O4.ae F9.ae));clear qu O4 HM4 F9;have hk7:k < 1000000:=HK9.ae;go_wp2_with fail;clear f10 c10;generalize World.setCell W3 _ _=WD at*;go_roundw;case rel=>exact⟨k+1,_,⟨s1.aJ,s1.aL++ [⟨nm,ty⟩]⟩,hlt,by go_num,uI.ae,P8.ae,by
   rw[zh.ae]
   exact QW s1.aL ⟨nm,ty⟩ (by rw[Sz.ae];exact aiX.ae),by
   show(s1.aL++ [_]).length=k+1
   rw[length_append,qE.ae]
   rfl⟩
  case measure=>exact Za1
 ·rw[if_pos HW] at Js;have ox:=aa (show X=.error er by
   rw[zh.ae,Js]
   rfl)
  have t1:(er != 0)=true:=by simp[HW]
  have nJ:=aa HW;have HW2:=aa sQ.ae.f.P6;clear HW Js;obtain⟨_,_,_,uR,_,_,b4,b5,_⟩:=HW2.ae;open zbX in exact ZaE):p:=h
theorem zgH.KbH(h:p:=by clear jI Mn;open zbq in exact Zax):p:=h
theorem zig.Kcj(h:p:=by go_upto_region 18 with fail;open zgH in exact Zex):p:=h
theorem zgT.KbK(h:p:=by
 have oz:=aa Av;have jI:=aa hP;simp only[bK,fy,Tryz.f28,Option.getD_some] at key;have KEY:=aa key;have b2:=hP.f.z2;unfold eJ at b2;have c4:=b2.cell 4;simp only[Uaa] at c4;rw[hn,<- Av] at c4;clear hE hF hO ih q1 q2 hqi XM EI Q6 Q0 hih Dq Tp uu q3 q4 Tq hlen q5 hP b2 hn Av key;simp only[bK,fy,Tryz.f28,Option.getD_some];refine wp_seq_k λ K hK=>?_
 have HK:=aa (show∀(gc:List aX) (v':Value) (w':World),X=.ok gc->gc.length<=q.aL.length->cO c w0 gp g2 (eJ q L) g4 g5 D r w' u v' [] ⟨[],gc⟩ hd [] [] [] [] [] []->∀T:Array Value,T.size=252->T.getD 2 undef=aw g2->T.getD 4 undef=aw g4->T.getD 5 undef=aw g5->T.getD 6 undef=aw gp->K { tmps:=T,defers:=d } w' from λ gc v' w' h1 h2 h3 T a1 a2 a3 a4 a5=>hK _ _ (KEY.ae gc v' w' h1 h2 h3 T a1 a2 a3 a4 a5));clear hK KEY;go_wp2_with fail;clear c4;go_loopw [94] (λ i wr=>∃(k:Nat) (v1:Value) (s1:dy),k<=zs.length/\i=af k/\s1.aJ=[]/\cO c w0 gp g2 (eJ q L) g4 g5 D r wr u v1 [] s1 hd [] [] [] [] [] []/\X=Tv s1.aL (kO c.cols (q.aL.drop k) k)/\s1.aL.length=k) (λ i _=>zs.length - (intOf i).toNat);case atStart=>exact⟨0,v,⟨[],[]⟩,Nat.zero_le _,rfl,rfl,jI.ae,by rw[drop_zero,Wu];exact Q5.ae,rfl⟩
 case round=>
  clear jI;obtain⟨k,v1,s1,hk,rfl,Ts,hP,Qs,Td⟩:=hrel;have uI:=aa Ts;have zh:=aa Qs;have jI:=aa hP;have qE:=aa Td;clear Ts Qs hP Td;by_cases hlt:k < zs.length
  ·have fG:k < q.aL.length:=by rw[<- oz.ae];exact hlt
   obtain⟨b,off,hA,Ch,hex⟩:∃b off,L.g.A=some ⟨b,off,none⟩/\b < w0.heap.size/\cw w0 b (off+k*7) zs[k]:=by exact Zhk
   have rM:(q.aL[k]'fG).at_ w0 (Old w0) zs[k]:=by obtain⟨Kx,h1,h2⟩:=pJ fG Q4.ae;rw[getElem?_eq_getElem hlt] at h1;injection h1 with h1;rw[h1];exact h2
   have fU:(q.aL[k]'fG).ok:=dL.1 Q1.ae _ (getElem_mem fG);have Js:kO c.cols (q.aL.drop k) k=(if ((q.aL[k]'fG).type c.cols).2≠0 then .error ((q.aL[k]'fG).type c.cols).2 else match kO c.cols (q.aL.drop (k+1)) (k+1)with
     | .error e=> .error e
     | .ok l=> .ok (⟨iX k,((q.aL[k]'fG).type c.cols).1⟩::l)):=by
    rw[drop_eq_getElem_cons fG];rfl
   generalize zs[k]=y at*;generalize (q.aL[k]'fG)=t at*;open zig in exact Zgw
  ·have GC:k=zs.length:=by omega
   have P9:=aa (show X=.ok s1.aL by
    rw[zh.ae,GC,oz.ae,drop_length]
    show Except.ok (s1.aL++ [])=_
    rw[append_nil])
   have HPZ:=aa (show cO c w0 gp g2 (eJ q L) g4 g5 D r wr u v1 [] ⟨[],s1.aL⟩ hd [] [] [] [] [] [] by
    have h:=jI.ae
    obtain⟨sa,sg⟩:=s1
    have h2:sa=[]:=uI.ae
    rw[h2] at h
    exact h)
   subst GC;go_wp2_with fail;refine HK.ae s1.aL v1 wr P9.ae (by have:=qE.ae;have:=oz.ae;omega) HPZ.ae _ ?_ ?_ ?_ ?_ ?_ <;> rfl):p:=h
theorem zfi.Ka9(h:p:=by
 obtain⟨hn,zs,q3,q4⟩:=hig;have Av:zs.length=q.aL.length:=q4.length;obtain⟨X,q5⟩:∃X,X=kO c.cols q.aL 0:=⟨_,rfl⟩
 have key:∀(gc:List aX) (v':Value) (w':World),X=.ok gc->gc.length<=q.aL.length->cO c w0 gp g2 (eJ q L) g4 g5 D r w' u v' [] ⟨[],gc⟩ hd [] [] [] [] [] []->∀T:Array Value,T.size=252->T.getD 2 undef=aw g2->T.getD 4 undef=aw g4->T.getD 5 undef=aw g5->T.getD 6 undef=aw gp->(fy bK 6).wp Tryz.prog Q { tmps:=T,defers:=d } w':=λ gc v' w' hx zT hp T hT h2 h4 h5 h6=>
  have hR:wU c.aK c.aL c.cols q=zr c.aK c.aL c.cols q ⟨[],gc⟩:=by unfold wU;rw[<- q5,hx]
  Q9 c w0 gp g2 g4 g5 D q L r u v' [] ⟨[],gc⟩ hd T hT h2 h4 h5 h6 d w' Q ih hqi XM EI Q6 Q0 hih Dq Tp uu Tq (by show gc.length+0+_+_<=_;omega) hp (λ er a W he=>hE er a W (hR.trans he)) (λ a W r' u' v' ql s' vk yi yh yo ti th eD he ha hp=>hO a W r' u' v' ql s' vk yi yh yo ti th eD (hR.trans he) ha hp)
 have hF:∀er a W,X=.error er->er≠0->qp a d g4 g5->wS w0 g4 g5 D W->Q .ret a (jf W g4 g5 er):=λ er a W hx=>hE er a W (by
  unfold wU
  rw[<- q5,hx])
 open zgT in exact ZeA):p:=h
theorem Wv (c:PC)(w0:World)(gp g2 g4 g5 D:Nat)(q:Qy)(L:QL)(r:Rest)(u v:Value)(hd:List aX)(T:Array Value)(hT:T.size=252)
  (h1:T.getD 1 undef=.slice c.cA c.cols.length c.cc) (h2:T.getD 2 undef=aw g2) (h4:T.getD 4 undef=aw g4) (h5:T.getD 5 undef=aw g5) (h6:T.getD 6 undef=aw gp) (d:List Deferred) (w:World) (Q:Exit->Act->World->Prop)
  (ih:c.Ok w0) (q1:Tr.cN q.aL) (hig:gI w0 q.aL L.g.A L.g.n) (q2:q.aL.length<=100000) (hqi:Tr.cN (q.items.map (·.1))) (XM:eO w0 (q.items.map λ y=>(y.1,.string y.2)) L.i.A L.i.n) (EI:q.items.length<=100000) (Q6:hd.length<=100000)
  (Q0:Tr.cN q.eU) (hih:gI w0 q.eU L.h.A L.h.n) (Dq:q.eU.length<=1000000) (Tp:Tr.cN (q.ord.map (·.1))) (uu:eO w0 (q.ord.map λ y=>(y.1,.bool y.2)) L.o.A L.o.n) (Tq:q.ord.length<=1000000) (hlen:q.aL.length+2*Tr.aQ (q.items.map (·.1))+(2*Tr.aQ q.eU+2*Tr.aQ (q.ord.map (·.1)))<=1000000)
  (hP:cO c w0 gp g2 (eJ q L) g4 g5 D r w u v [] ⟨[],[]⟩ hd [] [] [] [] [] [])
  (hE:∀er a W,wU c.aK c.aL c.cols q=.error er->er≠0->qp a d g4 g5->wS w0 g4 g5 D W->Q .ret a (jf W g4 g5 er))
  (hO:∀a W r' u' v' ql s' vk yi yh yo ti th eD,wU c.aK c.aL c.cols q=.ok (ti,vk,th,eD,s')->qp a d g4 g5->cO c w0 gp g2 (eJ q L) g4 g5 D r' W u' v' ql s' ((if q.items=[] then hd else [])++vk) yi yh yo ti th eD->Q .ret a (jt W g4 g5 gp)):
  (fy bK 5).wp Tryz.prog Q { tmps:=T,defers:=d } w:=by
 open zfi in exact ZcY
def wV (g:Bool)(aL:List Tr)(cols:List aX)(q:Qy):Except Int (List Tr×List aX×List Tr×List Tr×dy):=
 match pj cols q.cD with
 | .error e=> .error e
 | .ok _=>wU g aL cols q
structure PlQ (c:PC) (w0:World) (q:Qy) (L:QL) (hd:List aX):Prop where
 ok:c.Ok w0
 qw:Tr.cN q.cD
 iw:gI w0 q.cD L.w.A L.w.n
 nw:q.cD.length<=100000
 qg:Tr.cN q.aL
 ig:gI w0 q.aL L.g.A L.g.n
 ng:q.aL.length<=100000
 qi:Tr.cN (q.items.map (·.1))
 ii:eO w0 (q.items.map λ x=>(x.1,.string x.2)) L.i.A L.i.n
 ni:q.items.length<=100000
 nh:hd.length<=100000
 qh:Tr.cN q.eU
 ih:gI w0 q.eU L.h.A L.h.n
 nhv:q.eU.length<=100000
 qo:Tr.cN (q.ord.map (·.1))
 io:eO w0 (q.ord.map λ x=>(x.1,.bool x.2)) L.o.A L.o.n
 no:q.ord.length<=1000000
 len:q.aL.length+2*Tr.aQ (q.items.map (·.1))+(2*Tr.aQ q.eU+2*Tr.aQ (q.ord.map (·.1)))<=1000000
theorem zbY.Kam(h:p:=by exact ZgZ):p:=h
theorem zbr.Kag(h:p:=by
 clear k1;go_wp2_with fail;clear z0 z1 x2 x3 x4 x5 x6;have xa:=Tr.oO (cols:=c.cols) (CA:=c.cA) (cc:=c.cc) (by have:=HFN.ae.ok.cl;omega) t y W2 kz.ae (xe.ae.later tU.ae.f.base) (HFN.ae.ok.cols.later tU.ae.f.base);have Js:=uY.ae;generalize hR:t.type c.cols=R at*;obtain⟨ty,Kx⟩:=R;dsimp only at Js xa;refine(xa W2 (ai.refl _)).mono ?_;rintro e w6 ⟨rfl,hb6⟩;have HP6:=aa (tU.ae.later hb6);have JN:=aa Js;clear xa tU hb6 hR uY Js;go_wp2_with fail;refine(uf ty Kx w6).mono ?_;rintro e w7 ⟨rfl,Nv⟩;have sQ:=aa (HP6.ae.later Nv);have Js:=JN.ae;clear HP6 Nv JN;generalize nC (ty,Kx)=er at*;by_cases HW:er=0
 ·subst HW;rw[if_neg Tab] at Js;have aiX:=aa Js;clear Js;have hk7:k < 1000000:=by have:=HFN.ae.nw;have:=oz.ae;omega
  go_wp2_with fail;go_roundw;case rel=>exact⟨k+1,hlt,by go_num,sQ.ae,DN.ae.trans aiX.ae⟩
  case measure=>exact Za1
 ·rw[if_pos HW] at Js;have ox:=aa (show X=.error er from DN.ae.trans Js);have t1:(er != 0)=true:=by simp[HW]
  have nJ:=aa HW;have HW2:=aa sQ.ae.f.P6;clear HW Js;obtain⟨_,_,_,uR,_,_,b4,b5,_⟩:=HW2.ae;open zbY in exact ZaE):p:=h
theorem zgI.KbH(h:p:=by clear jI Mn;open zbr in exact Zax):p:=h
theorem zif.Kcj(h:p:=by go_upto_region 11 with fail;open zgI in exact Zex):p:=h
theorem zfj.Ka9(h:p:=by
 obtain⟨hn,zs,q3,q4⟩:=q2.iw;have Av:zs.length=q.cD.length:=q4.length;obtain⟨X,q5⟩:∃X,X=pj c.cols q.cD:=⟨_,rfl⟩
 have key:∀(w':World),X=.ok ()->cO c w0 gp g2 (eJ q L) g4 g5 D r w' u v [] ⟨[],[]⟩ hd [] [] [] [] [] []->∀T:Array Value,T.size=252->T.getD 1 undef=.slice c.cA c.cols.length c.cc->T.getD 2 undef=aw g2->T.getD 4 undef=aw g4->T.getD 5 undef=aw g5->T.getD 6 undef=aw gp->(fy bK 5).wp Tryz.prog Q { tmps:=T,defers:=d } w':=λ w' hx hp T hT h1 h2 h4 h5 h6=>
  have hR:wV c.aK c.aL c.cols q=wU c.aK c.aL c.cols q:=by unfold wV;rw[<- q5,hx]
  Wv c w0 gp g2 g4 g5 D q L r u v hd T hT h1 h2 h4 h5 h6 d w' Q q2.ok q2.qg q2.ig q2.ng q2.qi q2.ii q2.ni q2.nh q2.qh q2.ih (by have:=q2.nhv;omega) q2.qo q2.io q2.no q2.len hp (λ Kx a W he=>hE Kx a W (hR.trans he)) (λ a W r' u' v' ql s' vk yi yh yo ti th eD he ha hp=>hO a W r' u' v' ql s' vk yi yh yo ti th eD (hR.trans he) ha hp)
 have hE2:∀Kx a W,X=.error Kx->Kx≠0->qp a d g4 g5->wS w0 g4 g5 D W->Q .ret a (jf W g4 g5 Kx):=λ Kx a W hx=>hE Kx a W (by
  unfold wV
  rw[<- q5,hx])
 have HF:=aa hE2;have HFN:=aa q2;have Q3:=aa q3;have Q4:=aa q4;have Q5:=aa q5;have oz:=aa Av;have jI:=aa hP;simp only[bK,fy,Tryz.f28,Option.getD_some] at key;have KEY:=aa key;have b2:=hP.f.z2;unfold eJ at b2;have c3:=b2.cell 3;simp only[Uaa] at c3;rw[hn,<- Av] at c3;clear hE hE2 hO q2 q3 q4 q5 hP b2 hn Av key;simp only[bK,fy,Tryz.f28,Option.getD_some];refine wp_seq_k λ K hK=>?_
 have HK:=aa (show∀(w':World),X=.ok ()->cO c w0 gp g2 (eJ q L) g4 g5 D r w' u v [] ⟨[],[]⟩ hd [] [] [] [] [] []->∀T:Array Value,T.size=252->T.getD 1 undef=.slice c.cA c.cols.length c.cc->T.getD 2 undef=aw g2->T.getD 4 undef=aw g4->T.getD 5 undef=aw g5->T.getD 6 undef=aw gp->K { tmps:=T,defers:=d } w' from λ w' h1 h3 T a0 a1 a2 a3 a4 a5=>hK _ _ (KEY.ae w' h1 h3 T a0 a1 a2 a3 a4 a5));clear hK KEY;go_wp2_with fail;clear c3;go_loopw [77] (λ i wr=>∃(k:Nat),k<=zs.length/\i=af k/\cO c w0 gp g2 (eJ q L) g4 g5 D r wr u v [] ⟨[],[]⟩ hd [] [] [] [] [] []/\X=pj c.cols (q.cD.drop k)) (λ i _=>zs.length - (intOf i).toNat);case atStart=>exact⟨0,Nat.zero_le _,rfl,jI.ae,by rw[drop_zero];exact Q5.ae⟩
 case round=>
  clear jI;obtain⟨k,hi,rfl,hP,hlk⟩:=hrel;have DN:=aa hlk;have jI:=aa hP;clear hlk hP;by_cases hlt:k < zs.length
  ·have fG:k < q.cD.length:=by rw[<- oz.ae];exact hlt
   obtain⟨b,off,hA,Ch,hex⟩:∃b off,L.w.A=some ⟨b,off,none⟩/\b < w0.heap.size/\cw w0 b (off+k*7) zs[k]:=by exact Zhk
   have rM:(q.cD[k]'fG).at_ w0 (Old w0) zs[k]:=by obtain⟨KK,h1,h2⟩:=pJ fG Q4.ae;rw[getElem?_eq_getElem hlt] at h1;injection h1 with h1;rw[h1];exact h2
   have fU:(q.cD[k]'fG).ok:=dL.1 HFN.ae.qw _ (getElem_mem fG);have Js:pj c.cols (q.cD.drop k)=(if nC ((q.cD[k]'fG).type c.cols)≠0 then .error (nC ((q.cD[k]'fG).type c.cols))else pj c.cols (q.cD.drop (k+1))):=by rw[drop_eq_getElem_cons fG];rfl
   generalize zs[k]=y at*;generalize (q.cD[k]'fG)=t at*;open zif in exact Zgw
  ·have GC:k=zs.length:=by omega
   have P9:=aa (show X=.ok () by
    rw[DN.ae,GC,oz.ae,drop_length]
    rfl)
   subst GC;go_wp2_with fail;refine HK.ae wr P9.ae jI.ae _ ?_ ?_ ?_ ?_ ?_ ?_ <;> rfl):p:=h
theorem Ww (c:PC)(w0:World)(gp g2 g4 g5 D:Nat)(q:Qy)(L:QL)(r:Rest)(u v:Value)(hd:List aX)(T:Array Value)(hT:T.size=252)
  (h1:T.getD 1 undef=.slice c.cA c.cols.length c.cc) (h2:T.getD 2 undef=aw g2) (h4:T.getD 4 undef=aw g4) (h5:T.getD 5 undef=aw g5) (h6:T.getD 6 undef=aw gp) (d:List Deferred) (w:World) (Q:Exit->Act->World->Prop)
  (q2:PlQ c w0 q L hd)
  (hP:cO c w0 gp g2 (eJ q L) g4 g5 D r w u v [] ⟨[],[]⟩ hd [] [] [] [] [] [])
  (hE:∀Kx a W,wV c.aK c.aL c.cols q=.error Kx->Kx≠0->qp a d g4 g5->wS w0 g4 g5 D W->Q .ret a (jf W g4 g5 Kx))
  (hO:∀a W r' u' v' ql s' vk yi yh yo ti th eD,wV c.aK c.aL c.cols q=.ok (ti,vk,th,eD,s')->qp a d g4 g5->cO c w0 gp g2 (eJ q L) g4 g5 D r' W u' v' ql s' ((if q.items=[] then hd else [])++vk) yi yh yo ti th eD->Q .ret a (jt W g4 g5 gp)):
  (fy bK 4).wp Tryz.prog Q { tmps:=T,defers:=d } w:=by
 open zfj in exact ZcY
open Go.Shelf
theorem adL (q:Qy)(L:QL)(w:World):ar 56 #[mR q L] w λ e w'=>∃g,e=.returned (.func (.func 96) #[] #[aw g])/\aB w' g 27 (eJ q L)/\w.heap.size<=g/\aj w w':=by have bb:=ah w (.cells (eJ q L) 27);have HX:=aB.new w 27 (eJ q L);unfold mR;unfold eJ at*;go_enter Tryz.func56,Tryz.ntmps56;go_wp2_with fail;go_ret;exact⟨w.heap.size,rfl,HX,Nat.le_refl _,bb⟩
attribute [local go_sem] Oper.semAt_some
def dD (D:Nat):List Deferred:=[{ target:=.collected D,args:= #[] }]
def rX (g:Bool)(aL:List Tr)(cols:List aX)(q:Qy):Except Int (List Tr×List aX×List Tr×List Tr×dy):=
 if q.all.any (λ t=>decide (32 < t.depth))=true then .error 1 else wV g aL cols q
structure Dt (c:PC) (w0:World) (q:Qy) (L:QL) (hd:List aX):Prop where
 ok:c.Ok w0
 qw:Tr.cN q.cD
 iw:gI w0 q.cD L.w.A L.w.n
 nw:q.cD.length<=100000
 qg:Tr.cN q.aL
 ig:gI w0 q.aL L.g.A L.g.n
 ng:q.aL.length<=100000
 qi:Tr.cN (q.items.map (·.1))
 ii:eO w0 (q.items.map λ x=>(x.1,.string x.2)) L.i.A L.i.n
 ni:q.items.length<=100000
 nh:hd.length<=100000
 qh:Tr.cN q.eU
 ih:gI w0 q.eU L.h.A L.h.n
 nhv:q.eU.length<=100000
 qo:Tr.cN (q.ord.map (·.1))
 io:eO w0 (q.ord.map λ x=>(x.1,.bool x.2)) L.o.A L.o.n
 no:q.ord.length<=1000000
 len:q.all.any (λ t=>decide (32 < t.depth))=false->q.aL.length+2*Tr.aQ (q.items.map (·.1))+(2*Tr.aQ q.eU+2*Tr.aQ (q.ord.map (·.1)))<=1000000
variable{q:Qy}{L:QL}
theorem Dt.full(h:Dt c w0 q L hd)(hx:q.all.any (λ t=>decide (32 < t.depth))=false):PlQ c w0 q L hd:=
 ⟨h.ok,h.qw,h.iw,h.nw,h.qg,h.ig,h.ng,h.qi,h.ii,h.ni,h.nh,h.qh,h.ih,h.nhv,h.qo,h.io,h.no,h.len hx⟩
theorem R6(hq:Dt c w0 q L hd)(n:Nat)(hn:1<=n)(w:World)(gq:Nat)(hb:aB w gq 27 (eJ q L))(hw:aj w0 w):
  ∃LL:List (QE w0),LL.map (λ x=>x.1.2)=q.all/\SeqStopsK Fence.wide n Tryz.prog 96 #[aw gq] Qm Fr (λ ys=>ys=LL) (λ pre=>pre <+: LL) LL.length w:=by
 obtain⟨ni,zs,hzi,Nk,apS⟩:=hq.ii;obtain⟨no,zo,hzo,apT,apU⟩:=hq.io;obtain⟨nw,yw,hyw,aiY⟩:=hq.iw;obtain⟨ng,yg,hyg,aiZ⟩:=hq.ig;obtain⟨nh,yh,hyh,aja⟩:=hq.ih;rw[length_map] at ni no;have e1:(q.items.map λ x=>(x.1,Value.string x.2)).map (·.1)=q.items.map (·.1):=by simp
 have e2:(q.ord.map λ x=>(x.1,Value.bool x.2)).map (·.1)=q.ord.map (·.1):=by simp
 rw[e1] at apS;rw[e2] at apU;obtain⟨Li,l1,l2⟩:=AB _ _ hq.qi apS;obtain⟨Lc,l3,l4⟩:=AB (q.cD++q.aL++q.eU) (yw++yg++yh) (dL.2 λ t ht=>by
  rcases List.mem_append.1 ht with ht | ht
  ·rcases List.mem_append.1 ht with ht | ht
   ·exact dL.1 hq.qw t ht
   ·exact dL.1 hq.qg t ht
  ·exact dL.1 hq.qh t ht) (Tr.all_append (Tr.all_append aiY aiZ) aja)
 obtain⟨Lo,l5,l6⟩:=AB _ _ hq.qo apU;refine⟨Li++Lc++Lo,by unfold Qy.all;rw[map_append,map_append,l2,l4,l6],?_⟩;have eU:zs.length=q.items.length:=by have:=congrArg List.length Nk;simpa using this
 have fG:zo.length=q.ord.length:=by have:=congrArg List.length apT;simpa using this
 intro l J Jx W hW hJ hJx hY h0
 have:=acC w0 n hn l gq q L zs zo yw yg yh Li Lc Lo hzi hzo hyw.old hyg.old hyh.old WC WC (by rw[nw,aiY.length]) (by rw[ng,aiZ.length]) (by rw[nh,aja.length]) l1 l5 l3
  (λ z hz=>by
    have h1:z.2∈zs.map (·.2):=mem_map_of_mem hz
    rw[Nk] at h1
    obtain⟨a,ha,hb⟩:=List.mem_map.1 h1
    obtain⟨a2,_,rfl⟩:=List.mem_map.1 ha
    exact⟨_,hb.symm⟩)
  (λ z hz=>by
    have h1:z.2∈zo.map (·.2):=mem_map_of_mem hz
    rw[apT] at h1
    obtain⟨a,ha,hb⟩:=List.mem_map.1 h1
    obtain⟨a2,_,rfl⟩:=List.mem_map.1 ha
    exact⟨_,hb.symm⟩)
  ⟨by have:=hq.ni;omega,by have:=hq.no;omega,by
    have a1:=hq.nw
    have a2:=hq.ng
    have a3:=hq.nhv
    have b1:=aiY.length
    have b2:=aiZ.length
    have b3:=aja.length
    rw[length_append,length_append]
    omega⟩ J Jx W hJ hY (hb.later hW) ((Fr.below hw).trans (Fr.below hW)) h0
 exact this
attribute [local go_sem] Oper.semAt_some
def zt(x:QE w0):Bool:=decide (32 < x.1.2.depth)
def ajb (w0:World)(g4 g5:Nat)(W:World):Prop:=aj w0 W/\aB W g4 72 #[.pointer none]/\aB W g5 34 #[af 1]
def Jv:Code->Code
 | .seq (.seq _ (.block _ c)) _=>c
 | _=> .skip
noncomputable def QX:Code:=Jv (fy bK 3)
variable{W':World}{row:Option Nat}
theorem Du(h:aB W g t cs)(hg:W.grownBy W' row)(hr:∀r,row=some r->∃o:Obj,W.heap[r]?=some o/\o.isCells=false):aB W' g t cs:=h.grown hg λ e=>by obtain⟨o,h1,h2⟩:=hr g e.symm;rw[h] at h1;injection h1 with h1;rw[<- h1] at h2;cases h2
theorem zdB.KaF(h:p:=by
 clear hb;gi_wp2_with (refine⟨trivial,?_⟩;gi_at_call 57;refine(CallsIn.inRound l (callsIn_wide.2 ajc)).mono ?_;rintro e W2 ⟨rfl,hb2⟩;clear ajc;have c4:=(H4.ae.later hb2).cell 0;have c5:=((H5.ae.later hb2).far (p:=⟨g4,0,none⟩) (Ne.symm Au) (.pointer none)).cell 0;have f4:=(H4.ae.later hb2).frozen 0;have f5:=((H5.ae.later hb2).far (p:=⟨g4,0,none⟩) (Ne.symm Au) (.pointer none)).frozen 0;simp only[getElem?_toArray,getElem?_cons_zero] at c4 c5)
 ·rename_i hdp;have hx:zt x=true:=by unfold zt;first | exact decide_eq_true WC| simpa using hdp
  refine⟨?_,rfl,by rw[any_append,any_cons,hx];simp,?_⟩
  ·exact(((KeepsOthers.of_grownBy (nG hb2) (λ _ _ e _=>by cases e)).trans (KeepsOthers.setCell _ _ _)).trans (KeepsOthers.setCell _ _ _)).from _
  ·refine⟨((Below.trans Kx ((HI1.ae.mono Kx.size).trans (hb2.mono (Nat.le_trans Kx.size HI1.ae.size)))).setCell hl4 _).setCell hl5 _,?_,?_⟩
   ·exact(((H4.ae.later hb2).aT 0 _).far (p:=⟨g5,0,none⟩) Au _)
   ·exact(((H5.ae.later hb2).far (p:=⟨g4,0,none⟩) (Ne.symm Au) _).aT 0 _)
 ·rename_i hdp;have hx:zt x=false:=by unfold zt;first | exact decide_eq_false WC| simpa using hdp
  exact⟨(KeepsOthers.of_grownBy (nG hb2) (λ _ _ e _=>by cases e)).from _,Fr.below hb2,HI1.ae.trans (hb2.mono HI1.ae.size),by rw[any_append,any_cons,hx,HI2.ae];rfl⟩):p:=h
theorem Wx (w0 w1:World)(LL:List (QE w0))(gq g4 g5:Nat)(T:Array Value)(hT:T.size=252)(h4:T.getD 4 undef=aw g4)(h5:T.getD 5 undef=aw g5)(h69:T.getD 69 undef=.func (.func 96) #[] #[aw gq])
  (hseq:SeqStopsK Fence.wide 3 Tryz.prog 96 #[aw gq] Qm Fr (λ ys=>ys=LL) (λ pre=>pre <+: LL) LL.length w1)
  (Kx:aj w0 w1) (hb4:aB w1 g4 72 #[.pointer none]) (Il:aB w1 g5 34 #[af 0]) (Au:g4≠g5) (hl4:w0.heap.size<=g4) (hl5:w0.heap.size<=g5) (Q:Exit->Act->World->Prop)
  (hdone:∀D W,aj w1 W->w1.heap.size<=D->W.heap[D]?=some (.deferred (some []))->LL.any zt=false->Q .normal { tmps:=T,defers:=[{ target:=.collected D,args:= #[] }] } W)
  (Tw:∀D W,w1.heap.size<=D->LL.any zt=true->ajb w0 g4 g5 W->W.heap[D]?=some (.deferred (some []))->Q .ret { tmps:=T,defers:=[{ target:=.collected D,args:= #[] }] } W):
  QX.wp Tryz.prog Q { tmps:=T,defers:=[] } w1:=by
 obtain⟨f,rfl⟩:=kX T hT;have h4:f 4=_:=h4;have h5:f 5=_:=h5;have h69:f 69=_:=h69;have nU:bT f= #[f 0,f 1,f 2,f 3,aw g4,aw g5,f 6,f 7,f 8,f 9,f 10,f 11,f 12,f 13,f 14,f 15,f 16,f 17,f 18,f 19,f 20,f 21,f 22,f 23,f 24,f 25,f 26,f 27,f 28,f 29,f 30,f 31,f 32,f 33,f 34,f 35,f 36,f 37,f 38,f 39,f 40,f 41,f 42,f 43,f 44,f 45,f 46,f 47,f 48,f 49,f 50,f 51,f 52,f 53,f 54,f 55,f 56,f 57,f 58,f 59,f 60,f 61,f 62,f 63,f 64,f 65,f 66,f 67,f 68,.func (.func 96) #[] #[aw gq],f 70,f 71,f 72,f 73,f 74,f 75,f 76,f 77,f 78,f 79,f 80,f 81,f 82,f 83,f 84,f 85,f 86,f 87,f 88,f 89,f 90,f 91,f 92,f 93,f 94,f 95,f 96,f 97,f 98,f 99,f 100,f 101,f 102,f 103,f 104,f 105,f 106,f 107,f 108,f 109,f 110,f 111,f 112,f 113,f 114,f 115,f 116,f 117,f 118,f 119,f 120,f 121,f 122,f 123,f 124,f 125,f 126,f 127,f 128,f 129,f 130,f 131,f 132,f 133,f 134,f 135,f 136,f 137,f 138,f 139,f 140,f 141,f 142,f 143,f 144,f 145,f 146,f 147,f 148,f 149,f 150,f 151,f 152,f 153,f 154,f 155,f 156,f 157,f 158,f 159,f 160,f 161,f 162,f 163,f 164,f 165,f 166,f 167,f 168,f 169,f 170,f 171,f 172,f 173,f 174,f 175,f 176,f 177,f 178,f 179,f 180,f 181,f 182,f 183,f 184,f 185,f 186,f 187,f 188,f 189,f 190,f 191,f 192,f 193,f 194,f 195,f 196,f 197,f 198,f 199,f 200,f 201,f 202,f 203,f 204,f 205,f 206,f 207,f 208,f 209,f 210,f 211,f 212,f 213,f 214,f 215,f 216,f 217,f 218,f 219,f 220,f 221,f 222,f 223,f 224,f 225,f 226,f 227,f 228,f 229,f 230,f 231,f 232,f 233,f 234,f 235,f 236,f 237,f 238,f 239,f 240,f 241,f 242,f 243,f 244,f 245,f 246,f 247,f 248,f 249,f 250,f 251]:=by simp only[bT,h4,h5,h69]
 rw[nU] at hdone Tw ⊢;clear nU h4 h5 h69;clear h4 h5 h69 hT;have HD:=aa hdone;have HS:=aa Tw;have R7:=hseq;simp only[QX,Jv,bK,fy,Tryz.f28,Option.getD_some];refine(wpIn_wide (n:=4)).1 ?_
 refine wpIn_rangeFunc_ownH rfl WC (gf:=96) (lb:= #[aw gq]) rfl trivial (enters_of Tryz.func96 Taa rfl) R7 (λ h k=>Fr.trans h k) (λ W l ob ob' _ h1 h2 _=>Fr.putObj W l ob ob' h1 h2) (Below.refl _ _) (λ _=>rfl)
  (λ pre W=>aj w1 W/\pre.any zt=false)
  (λ cd pre W=>cd=.ret/\pre.any zt=true/\ajb w0 g4 g5 W)
  ?hI ?hIx ?h0
  (λ x a' W=>∃g7,aB W g7 46 (bH x.1.1).toArray/\a'= { tmps:= #[f 0,f 1,f 2,f 3,aw g4,aw g5,f 6,aw g7,f 8,f 9,f 10,f 11,f 12,f 13,f 14,f 15,f 16,f 17,f 18,f 19,f 20,f 21,f 22,f 23,f 24,f 25,f 26,f 27,f 28,f 29,f 30,f 31,f 32,f 33,f 34,f 35,f 36,f 37,f 38,f 39,f 40,f 41,f 42,f 43,f 44,f 45,f 46,f 47,f 48,f 49,f 50,f 51,f 52,f 53,f 54,f 55,f 56,f 57,f 58,f 59,f 60,f 61,f 62,f 63,f 64,f 65,f 66,f 67,f 68,.func (.func 96) #[] #[aw gq],(.agg (bH x.1.1).toArray),f 71,f 72,f 73,f 74,f 75,f 76,f 77,f 78,f 79,f 80,f 81,f 82,f 83,f 84,f 85,f 86,f 87,f 88,f 89,f 90,f 91,f 92,f 93,f 94,f 95,f 96,f 97,f 98,f 99,f 100,f 101,f 102,f 103,f 104,f 105,f 106,f 107,f 108,f 109,f 110,f 111,f 112,f 113,f 114,f 115,f 116,f 117,f 118,f 119,f 120,f 121,f 122,f 123,f 124,f 125,f 126,f 127,f 128,f 129,f 130,f 131,f 132,f 133,f 134,f 135,f 136,f 137,f 138,f 139,f 140,f 141,f 142,f 143,f 144,f 145,f 146,f 147,f 148,f 149,f 150,f 151,f 152,f 153,f 154,f 155,f 156,f 157,f 158,f 159,f 160,f 161,f 162,f 163,f 164,f 165,f 166,f 167,f 168,f 169,f 170,f 171,f 172,f 173,f 174,f 175,f 176,f 177,f 178,f 179,f 180,f 181,f 182,f 183,f 184,f 185,f 186,f 187,f 188,f 189,f 190,f 191,f 192,f 193,f 194,f 195,f 196,f 197,f 198,f 199,f 200,f 201,f 202,f 203,f 204,f 205,f 206,f 207,f 208,f 209,f 210,f 211,f 212,f 213,f 214,f 215,f 216,f 217,f 218,f 219,f 220,f 221,f 222,f 223,f 224,f 225,f 226,f 227,f 228,f 229,f 230,f 231,f 232,f 233,f 234,f 235,f 236,f 237,f 238,f 239,f 240,f 241,f 242,f 243,f 244,f 245,f 246,f 247,f 248,f 249,f 250,f 251],defers:=[] })
  ?hAx ?assign ?body ?done ?stop
 case hI=>exact λ s W W' row hs hg hr=>⟨hs.1.grown hg hs.1.size (λ k e=>(hr k e).1),hs.2⟩
 case hIx=>exact λ cd s W W' row hs hg hr=>⟨hs.1,hs.2.1,hs.2.2.1.grown hg hs.2.2.1.size (λ k e=>Nat.le_trans Kx.size (hr k e).1),Du hs.2.2.2.1 hg (λ r e=>(hr r e).2),Du hs.2.2.2.2 hg (λ r e=>(hr r e).2)⟩
 case h0=>exact⟨Below.refl _ _,rfl⟩
 case hAx=>rintro x a' s W W' row ⟨g7,h1,h2⟩ hg hr;exact⟨g7,Du h1 hg (λ r e=>(hr r e).2),h2⟩
 case assign=>
  rintro l pre x W K ⟨hi1,Gg⟩ hK;have hbn:=aB.new W 46 (bH x.1.1).toArray;have bbn:=ah W (.cells (bH x.1.1).toArray 46);have hK2:=hK { tmps:= #[f 0,f 1,f 2,f 3,aw g4,aw g5,f 6,aw W.heap.size,f 8,f 9,f 10,f 11,f 12,f 13,f 14,f 15,f 16,f 17,f 18,f 19,f 20,f 21,f 22,f 23,f 24,f 25,f 26,f 27,f 28,f 29,f 30,f 31,f 32,f 33,f 34,f 35,f 36,f 37,f 38,f 39,f 40,f 41,f 42,f 43,f 44,f 45,f 46,f 47,f 48,f 49,f 50,f 51,f 52,f 53,f 54,f 55,f 56,f 57,f 58,f 59,f 60,f 61,f 62,f 63,f 64,f 65,f 66,f 67,f 68,.func (.func 96) #[] #[aw gq],(.agg (bH x.1.1).toArray),f 71,f 72,f 73,f 74,f 75,f 76,f 77,f 78,f 79,f 80,f 81,f 82,f 83,f 84,f 85,f 86,f 87,f 88,f 89,f 90,f 91,f 92,f 93,f 94,f 95,f 96,f 97,f 98,f 99,f 100,f 101,f 102,f 103,f 104,f 105,f 106,f 107,f 108,f 109,f 110,f 111,f 112,f 113,f 114,f 115,f 116,f 117,f 118,f 119,f 120,f 121,f 122,f 123,f 124,f 125,f 126,f 127,f 128,f 129,f 130,f 131,f 132,f 133,f 134,f 135,f 136,f 137,f 138,f 139,f 140,f 141,f 142,f 143,f 144,f 145,f 146,f 147,f 148,f 149,f 150,f 151,f 152,f 153,f 154,f 155,f 156,f 157,f 158,f 159,f 160,f 161,f 162,f 163,f 164,f 165,f 166,f 167,f 168,f 169,f 170,f 171,f 172,f 173,f 174,f 175,f 176,f 177,f 178,f 179,f 180,f 181,f 182,f 183,f 184,f 185,f 186,f 187,f 188,f 189,f 190,f 191,f 192,f 193,f 194,f 195,f 196,f 197,f 198,f 199,f 200,f 201,f 202,f 203,f 204,f 205,f 206,f 207,f 208,f 209,f 210,f 211,f 212,f 213,f 214,f 215,f 216,f 217,f 218,f 219,f 220,f 221,f 222,f 223,f 224,f 225,f 226,f 227,f 228,f 229,f 230,f 231,f 232,f 233,f 234,f 235,f 236,f 237,f 238,f 239,f 240,f 241,f 242,f 243,f 244,f 245,f 246,f 247,f 248,f 249,f 250,f 251],defers:=[] } (W.alloc (.cells (bH x.1.1).toArray 46)) ((KeepsOthers.alloc _ _).from _) (Fr.below bbn) ⟨Below.trans hi1 (bbn.mono hi1.size),Gg⟩ ⟨_,hbn,rfl⟩
  clear hK hdone Tw HD HS R7 hseq;unfold bH at*;simp only[Qm];gi_wp2;exact hK2
 case body=>rintro l pre x a' W hl ⟨r,hr⟩ ⟨hi1,Gg⟩ ⟨g7,hb,rfl⟩ hlt;have ajc:=Tr.YU x.1.2 x.1.1 w0 x.2.1 x.2.2 W (Below.trans Kx (hi1.mono Kx.size));have H4:=aa (hb4.later hi1);have H5:=aa (Il.later hi1);have HI1:=aa hi1;have HI2:=aa Gg;clear hdone Tw HD HS R7 hseq hr hi1 Gg;unfold mA at ajc;open zdB in exact Zbw
 case done=>rintro D xs W hD rfl ⟨h1,h2⟩ h3;exact HD.ae D W h1 hD h3 h2
 case stop=>
  rintro D cd pre W hD Ea ⟨rfl,h1,h2⟩ h3;have hx:=HS.ae D W hD (by
   obtain⟨x,hx1,hx2⟩:=List.any_eq_true.1 h1
   exact List.any_eq_true.2 ⟨x,Ea.subset hx1,hx2⟩) h2 h3
  gi_wp2;exact hx
attribute [local go_sem] Oper.semAt_some
theorem zdS.KaJ(h:p:=by
 simp only[Uaa] at y0 y1 c2 y3 y4 y5 y6 x7;clear hE q5 hO Av hP hb cJ hb4 Il Au hl4 hl5 key;simp only[bK,fy,Tryz.f28,Option.getD_some];refine wp_seq_k λ K hK=>?_
 have HK:=aa (show∀(D:Nat) (w':World),w0.heap.size<=D->q.all.any (λ t=>decide (32 < t.depth))=false->cO c w0 gp g2 (eJ q L) g4 g5 D r w' u v [] ⟨[],[]⟩ hd [] [] [] [] [] []->∀T:Array Value,T.size=252->T.getD 1 undef=.slice c.cA c.cols.length c.cc->T.getD 2 undef=aw g2->T.getD 4 undef=aw g4->T.getD 5 undef=aw g5->T.getD 6 undef=aw gp->K { tmps:=T,defers:=dD D } w' from λ D w' h0 h1 h3 T a0 a1 a2 a3 a4 a5=>hK _ _ (KEY.ae D w' h0 h1 h3 T a0 a1 a2 a3 a4 a5));clear hK KEY;go_wp2_with fail;clear y0 y1 c2 y3 y4 y5 y6 x7;refine(adL q L w).mono ?_;rintro e w1 ⟨gq,rfl,IQ,zT,hb1⟩;obtain⟨LL,hLL,hseq⟩:=R6 oz.ae 3 WC w1 gq IQ (Below.trans HB.ae (hb1.mono HB.ae.size));have zL:=aa hLL;have R7:=aa hseq;have eL:=aa hb1;clear IQ zT hb1 hLL hseq;go_wp2_with fail;have apW:=λ(T:Array Value) hT e4 e5 e69 (Q2:Exit->Act->World->Prop) hd hs=>Wx w0 w1 LL gq g4 g5 T hT e4 e5 e69 R7.ae (Below.trans HB.ae (eL.ae.mono HB.ae.size)) (I4.ae.later eL.ae) (rK.ae.later eL.ae) HL.ae.1 HL.ae.2.1 HL.ae.2.2 Q2 hd hs
 simp only[QX,Jv,bK,fy,Tryz.f28,Option.getD_some] at apW;refine apW _ ?_ ?_ ?_ ?_ _ ?_ ?_
 ·rfl
 ·rfl
 ·rfl
 ·rfl
 ·intro D W a1 a2 a3 a4;have nK:=Below.trans eL.ae (a1.mono eL.ae.size);exact HK.ae D W (Nat.le_trans HB.ae.size (Nat.le_trans eL.ae.size a2)) (by rw[<- zL.ae,any_map];exact a4) (jI.ae W D nK (Nat.le_trans eL.ae.size a2) a3) _ rfl rfl rfl rfl rfl rfl
 ·intro D W a0 a1 a2 a3;exact Q5.ae D _ W (Nat.le_trans HB.ae.size (Nat.le_trans eL.ae.size a0)) (by rw[<- zL.ae,any_map];exact a1) ⟨rfl,rfl,rfl⟩ a2 a3):p:=h
theorem zfk.Ka9(h:p:=by
 have key:∀(D:Nat) (w':World),w0.heap.size<=D->q.all.any (λ t=>decide (32 < t.depth))=false->cO c w0 gp g2 (eJ q L) g4 g5 D r w' u v [] ⟨[],[]⟩ hd [] [] [] [] [] []->∀T:Array Value,T.size=252->T.getD 1 undef=.slice c.cA c.cols.length c.cc->T.getD 2 undef=aw g2->T.getD 4 undef=aw g4->T.getD 5 undef=aw g5->T.getD 6 undef=aw gp->(fy bK 4).wp Tryz.prog Q { tmps:=T,defers:=dD D } w':=λ D w' hDD hx hp T hT h1 h2 h4 h5 h6=>
  have hR:rX c.aK c.aL c.cols q=wV c.aK c.aL c.cols q:=if_neg (by rw[hx];decide)
  Ww c w0 gp g2 g4 g5 D q L r u v hd T hT h1 h2 h4 h5 h6 (dD D) w' Q (Av.full hx) hp (λ er a W he=>hE D er a W hDD (hR.trans he)) (λ a W r' u' v' ql s' vk yi yh yo ti th eD he ha hp=>hO D a W r' u' v' ql s' vk yi yh yo ti th eD hDD (hR.trans he) ha hp)
 have Q5:=aa q5;have oz:=aa Av;have jI:=aa hP;simp only[bK,fy,Tryz.f28,Option.getD_some] at key;have KEY:=aa key;have HB:=aa hb;have fE:=aa cJ;have I4:=aa hb4;have rK:=aa Il;have HL:=aa (And.intro Au (And.intro hl4 hl5));unfold eJ at cJ;open zdS in exact ZbL):p:=h
theorem adM (c:PC)(w0:World)(gp g2 g4 g5:Nat)(q:Qy)(L:QL)(r:Rest)(u v:Value)(hd:List aX)(T:Array Value)(hT:T.size=252)
  (h1:T.getD 1 undef=.slice c.cA c.cols.length c.cc) (h2:T.getD 2 undef=aw g2) (h4:T.getD 4 undef=aw g4) (h5:T.getD 5 undef=aw g5) (h6:T.getD 6 undef=aw gp) (w:World) (Q:Exit->Act->World->Prop)
  (Av:Dt c w0 q L hd)
  (hP:∀W D,aj w W->w.heap.size<=D->W.heap[D]?=some (.deferred (some []))->cO c w0 gp g2 (eJ q L) g4 g5 D r W u v [] ⟨[],[]⟩ hd [] [] [] [] [] [])
  (hb:aj w0 w) (cJ:aB w g2 27 (eJ q L)) (hb4:aB w g4 72 #[.pointer none]) (Il:aB w g5 34 #[af 0]) (Au:g4≠g5) (hl4:w0.heap.size<=g4) (hl5:w0.heap.size<=g5)
  (q5:∀D a W,w0.heap.size<=D->q.all.any (λ t=>decide (32 < t.depth))=true->qp a (dD D) g4 g5->ajb w0 g4 g5 W->W.heap[D]?=some (.deferred (some []))->Q .ret a W)
  (hE:∀D er a W,w0.heap.size<=D->rX c.aK c.aL c.cols q=.error er->er≠0->qp a (dD D) g4 g5->wS w0 g4 g5 D W->Q .ret a (jf W g4 g5 er))
  (hO:∀D a W r' u' v' ql s' vk yi yh yo ti th eD,w0.heap.size<=D->rX c.aK c.aL c.cols q=.ok (ti,vk,th,eD,s')->qp a (dD D) g4 g5->cO c w0 gp g2 (eJ q L) g4 g5 D r' W u' v' ql s' ((if q.items=[] then hd else [])++vk) yi yh yo ti th eD->Q .ret a (jt W g4 g5 gp)):
  (fy bK 3).wp Tryz.prog Q { tmps:=T,defers:=[] } w:=by
 open zfk in exact ZcY
end Go.Proofs.YtndgjggokjickaaGreatDoor
