/- Parts of the proof. -/
import Derived.Test.YtndgjggokjickaaGreatDoorXS9
namespace Go.Proofs.YtndgjggokjickaaGreatDoor
variable{p:Prop}
set_option maxHeartbeats 90000000
set_option maxRecDepth 100000
open Go.ChangeShapes Go.WideShapes Go.ChangeAt Go.RowKit List
set_option linter.unusedVariables false
set_option linter.unusedSimpArgs false
def Dz (items order:List Tr)(over:List aZ)(r:List Val):Except Int eI:=match bz over r (items++order)with
 | .error e=> .error e
 | .ok l=> .ok ⟨if items=[] then r else l.take items.length,l.drop items.length⟩
def wX (items order:List Tr)(over:List aZ)(rs:List aN):List eI:=rs.filterMap λ r=>uI (Dz items order over r.l)
variable{order:List Tr}{over:List aZ}{rs:List aN}{k:Nat}
theorem VM{items:List Tr}   (h:k < rs.length):wX items order over (rs.take (k+1))=wX items order over (rs.take k)++(match uI (Dz items order over rs[k].l)with | some x=> [x] | none=> []):=by
 have e:rs.take (k+1)=rs.take k++ [rs[k]]:=by rw[take_add_one,getElem?_eq_getElem h];rfl
 unfold wX;rw[e,filterMap_append];congr 1;rw[filterMap_cons,filterMap_nil];cases uI (Dz items order over rs[k].l)<;> rfl
variable{A:Option Addr}{n:Nat}{a:Addr}
theorem Ni{c:Nat} (h:eT A c n=some a):∃b,A=some b/\b.block=a.block:=by
 unfold eT at h;split at h
 ·exact⟨a,h,rfl⟩
 ·cases A with
  | none=>cases h
  | some b=>simp only[Option.map_some,Option.some.injEq] at h;exact⟨b,rfl,by rw[<- h,vA]⟩
variable{w:World}{l:List Val}
theorem bP.drop(h:bP w A l)(n c:Nat)(hc:l.length<=c):bP w (eT A c n) (l.drop n):=
 ⟨h.rv.SQ n c hc,λ a ha=>by obtain⟨b,e1,e2⟩:=Ni ha;obtain⟨cur,yz⟩:=h.ty b e1;exact⟨cur,e2▸yz⟩⟩
structure Nj (w:World) (gp:Nat) (items order:List Tr) (over:List aZ) (yi yo:List Ex) (IA:Option Addr) (ic:Nat) (DA:Option Addr) (dc:Nat) (OA:Option Addr):Prop where
 lt:gp < w.heap.size
 c13:w.cell? ⟨gp,13,none⟩=some (.slice IA yi.length ic)
 c15:w.cell? ⟨gp,15,none⟩=some (.slice DA yo.length dc)
 ri:RE w w.heap.size IA yi
 ti:Tr.aQ w (Old w) items yi
 ro:RE w w.heap.size DA yo
 eE:Tr.aQ w (Old w) order yo
 rc:RC w w.heap.size OA over
variable{w':World}{gp:Nat}{yi yo:List Ex}{IA:Option Addr}{ic:Nat}{DA:Option Addr}{dc:Nat}{OA:Option Addr}
theorem Nj.later{items:List Tr}       (h:Nj w gp items order over yi yo IA ic DA dc OA)(hb:aj w w'):Nj w' gp items order over yi yo IA ic DA dc OA:=
 ⟨Nat.lt_of_lt_of_le h.lt hb.size,(hb.cell (p:=⟨gp,13,none⟩) h.lt).trans h.c13,(hb.cell (p:=⟨gp,15,none⟩) h.lt).trans h.c15,h.ri.later hb,Tr.aQ.later h.ti hb,h.ro.later hb,Tr.aQ.later h.eE hb,h.rc.later hb⟩
def ahI (gp:Nat)(IA:Option Addr)(ni ic:Nat)(DA:Option Addr)(no dc:Nat)(CA:Option Addr)(cn cc:Nat)(RA:Option Addr)(rn rc:Nat)(E:List Ex)(B0:Nat)(res:Except Int (List Val)):Nat->World->Value->Prop
 | 0,_,v=>v=aw gp
 | 1,_,v=>v=aw gp
 | 2,_,v=>v=bj gp 13
 | 3,_,v=>v=.slice IA ni ic
 | 4,_,v=>v=aw gp
 | 5,_,v=>v=aw gp
 | 6,_,v=>v=bj gp 15
 | 7,_,v=>v=.slice DA no dc
 | 8,w,v=>∃gB:Nat,v=aF gB 2 2/\aC w gB 23 #[.slice IA ni ic,.slice DA no dc]
 | 9,w,v=>∃v7:Value,v=v7/\uY w B0 v7 E
 | 10,_,v=>v=.slice CA cn cc
 | 11,_,v=>v=.slice RA rn rc
 | 12,w,v=>∃x0 x1:Value,v=.tuple #[x0,x1]/\nP res w B0 x0 x1
 | 13,w,v=>∃x0 x1:Value,v=.tuple #[x0,x1]/\nP res w B0 x0 x1
 | 14,w,v=>∃x0 x1:Value,v=x0/\nP res w B0 x0 x1
 | 15,_,v=>v=af (nG res)
 | 16,w,v=>∃x0 x1:Value,v=x0/\nP res w B0 x0 x1
 | _,_,_=>False
theorem QT (gp:Nat)(IA:Option Addr)(ni ic:Nat)(DA:Option Addr)(no dc:Nat)(CA:Option Addr)(cn cc:Nat)(RA:Option Addr)(rn rc:Nat)(E:List Ex)(B0:Nat)(res:Except Int (List Val)):∀i w w' v,ahI gp IA ni ic DA no dc CA cn cc RA rn rc E B0 res i w v->ai w w'->ahI gp IA ni ic DA no dc CA cn cc RA rn rc E B0 res i w' v:=by
 intro i w w' v h hl
 match i with
 | 0 | 1 | 2 | 3 | 4 | 5 | 6 | 7 | 10 | 11 | 15=>exact h
 | 8=>obtain⟨gB,h1,f0⟩:=h;exact⟨gB,h1,f0.later hl⟩
 | 9=>obtain⟨v7,h1,f0⟩:=h;exact⟨v7,h1,f0.later hl⟩
 | 12=>exact Zcr
 | 13=>exact Zcr
 | 14=>exact Zcr
 | 16=>exact Zcr
 | n+17=>exact h
def ahJ (gp:Nat)(IA:Option Addr)(ni ic:Nat)(XA:Option Addr)(xn xc B0:Nat):Nat->World->Value->Prop
 | 0,_,v=>v=.slice XA xn xc
 | 1,_,v=>v=aw gp
 | 2,_,v=>v=aw gp
 | 3,_,v=>v=bj gp 13
 | 4,_,v=>v=.slice IA ni ic
 | 5,_,v=>v=af ni
 | 6,_,v=>v=aw gp
 | 7,_,v=>v=aw gp
 | 8,_,v=>v=bj gp 13
 | 9,_,v=>v=.slice IA ni ic
 | 10,_,v=>v=af ni
 | 11,_,v=>v=.slice XA ni ni
 | 12,_,v=>v=.slice XA xn xc
 | 13,_,v=>v=aw gp
 | 14,_,v=>v=aw gp
 | 15,_,v=>v=bj gp 13
 | 16,_,v=>v=.slice IA ni ic
 | 17,_,v=>v=af ni
 | 18,_,v=>v=.slice (eT XA xc ni) (xn - ni) (xc - ni)
 | 19,_,v=>v=.agg #[.slice XA ni ni,.slice (eT XA xc ni) (xn - ni) (xc - ni)]
 | 20,w,v=>∃gx:Nat,v=aw gx/\aC w gx 91 #[az,az]/\B0<=gx
 | _,_,_=>False
theorem QU (gp:Nat)(IA:Option Addr)(ni ic:Nat)(XA:Option Addr)(xn xc B0:Nat):∀i w w' v,ahJ gp IA ni ic XA xn xc B0 i w v->ai w w'->ahJ gp IA ni ic XA xn xc B0 i w' v:=by
 intro i w w' v h hl
 match i with
 | 0 | 1 | 2 | 3 | 4 | 5 | 6 | 7 | 8 | 9 | 10 | 11 | 12 | 13 | 14 | 15 | 16 | 17 | 18 | 19=>exact h
 | 20=>obtain⟨gx,h1,f0,f1⟩:=h;exact⟨gx,h1,f0.later hl,f1⟩
 | n+21=>exact h
def ahK (gb:Nat)(le:Int):Nat->World->Value->Prop
 | 0,_,v=>v=.agg #[az,az,af 0]
 | 1,_,v=>v=aw gb
 | 2,_,v=>v=af le
 | 3,_,v=>v=undef
 | 4,_,v=>v=af le
 | _,_,_=>False
theorem QV (gb:Nat)(le:Int):∀i w w' v,ahK gb le i w v->ai w w'->ahK gb le i w' v:=by exact Zhz
variable{g:Nat}{t:TypeId}
theorem pY{a b c:Value}(h:aC w g t #[a,b,c]):ai w (((w.setCell ⟨g,0,none⟩ a).setCell ⟨g,1,none⟩ b).setCell ⟨g,2,none⟩ c):=by
 have h2:aC (((w.setCell ⟨g,0,none⟩ a).setCell ⟨g,1,none⟩ b).setCell ⟨g,2,none⟩ c) g t #[a,b,c]:=((h.aW 0 a).aW 1 b).aW 2 c;refine⟨rfl,rfl,rfl,by simp,λ k hk=>?_⟩;by_cases e:k=g
 ·subst e;exact(show _=_ from h2).trans (show _=_ from h).symm
 ·rw[Below.heap_setCell _ ⟨g,2,none⟩ _ k e,Below.heap_setCell _ ⟨g,1,none⟩ _ k e,Below.heap_setCell _ ⟨g,0,none⟩ _ k e]
theorem zeI.KaU(h:p:=by exact Kr (w':=((W4.setCell ⟨g6,0,none⟩ (az)).setCell ⟨g6,1,none⟩ (az)).setCell ⟨g6,2,none⟩ (af 0)) (by simp[go_sem,h0,h1,z0,z1,x2,f0,f1,f2];done) ⟨pY HX,rfl⟩):p:=h
theorem ziP.Kcp(h:p:=by
 have aor:=aa (show∀x∈dL,bP W3 x.1.A x.1.l/\bP W3 x.2.A x.2.l/\x.1.l.length<=1000/\x.2.l.length=order.length from λ x hx=>by obtain⟨f1,f2,q3⟩:=ahL.ae x hx;exact⟨f1.later hL,f2.later hL,q3⟩);have aos:=aa (uV.ae.later hL);have Qg:=aa aeG;have HNX:=aa (show u13.ownBlock≠some jb from λ e=>by have h1:=(MQ.ae.lt e).1;have h2:=J1;have h3:=Ly.ae;omega);have HGL:=aa (show w.heap.size<=jb from Nat.le_trans vr.ae.size (by rw[<- Ly.ae];exact J1));clear hL vr MQ E9 ahL uV aeG J1 Ly HEW;have gx0:=Qg.ae.cell 0;have gx1:=Qg.ae.cell 1;have gf0:=Qg.ae.frozen 0;have gf1:=Qg.ae.frozen 1;simp only[Uaa] at gx0 gx1;go_upto_region 23 with fail;clear gx0 gx1 gf0 gf1;have g7:W3.grownBy ((W3.setCell ⟨jb,0,none⟩ (.slice XA gn gn)).setCell ⟨jb,1,none⟩ (.slice (eT XA xc gn) (xn - gn) (xc - gn))) (some jb):=aG (aG (aT (Below.refl _ _)) _ _) _ _;have SP:=aa (show aC ((W3.setCell ⟨jb,0,none⟩ (.slice XA gn gn)).setCell ⟨jb,1,none⟩ (.slice (eT XA xc gn) (xn - gn) (xc - gn))) jb 91 #[.slice XA gn gn,.slice (eT XA xc gn) (xn - gn) (xc - gn)] from(Qg.ae.aW 0 _).aW 1 _);generalize (W3.setCell ⟨jb,0,none⟩ (.slice XA gn gn)).setCell ⟨jb,1,none⟩ (.slice (eT XA xc gn) (xn - gn) (xc - gn))=W7 at*;have fL:∀ {A:Option Addr} {l:List Val},bP W3 A l->bP W7 A l:=λ h=>h.keep g7.size λ b cur hc=>g7.block b hc.lt λ e=>by injection e with e;subst e;exact kO hc Qg.ae Taa rfl
 have Gv:=aa (dy Mq.ae g7 HGL.ae);have wS:=aa (MA.ae.grown g7 HNX.ae);have EH:=aa (MR.ae.grown g7 (λ e=>by injection e with e;exact kO MR.ae Qg.ae Taa e));have VO:=aa (show∀x∈dL,bP W7 x.1.A x.1.l/\bP W7 x.2.A x.2.l/\x.1.l.length<=1000/\x.2.l.length=order.length from λ x hx=>by obtain⟨f1,f2,q3⟩:=aor.ae x hx;exact⟨fL f1,fL f2,q3⟩);have acb:=aa (fL aos.ae);have aot:=aa (HF.ae.later Gv.ae);have c13:=aot.ae.c13;rw[<- IH.ae] at c13;have HDL:=aa (show(l.drop gn).length=xn - gn by rw[length_drop,oO.ae]);have qM:=aa (show(l.take gn).length=gn by rw[length_take];have:=xY.ae;have:=oO.ae;omega);have WM:=aa (show(l.drop gn).length=order.length by rw[length_drop,LE.ae,HYO.ae];omega);clear g7 fL Mq MA MR aor aos Qg;have auk:=HNX;clear HNX;by_cases Lw:gn=0
 ·have t3:((gn:Int)==0)=true:=by simp[Lw]
  have HIT:=aa (show items=[] from eq_nil_of_length_eq_zero (by rw[HYI.ae,Lw]));have HZ:=aa Lw;clear Lw;go_wp2_with fail;clear c13;refine(uO r.A r.c r.l W7 ((auh.ae.below Gv.ae).more Gv.ae.size) Qr.ae.1).mono ?_;rintro e w8 ⟨rv,rfl,tO,b8⟩;obtain⟨U5,rc2,aul,_,hk2⟩:=Jh tO;subst aul;have hx8:=SP.ae.later b8;have z0:=hx8.cell 0;have f0:=hx8.frozen 0;simp only[Uaa] at z0;go_upto_region 25 with fail;clear z0 f0;have g9:W7.grownBy (w8.setCell ⟨jb,0,none⟩ (.slice U5 r.l.length rc2)) (some jb):=aG (aT b8) _ _;have bM:aC (w8.setCell ⟨jb,0,none⟩ (.slice U5 r.l.length rc2)) jb 91 #[.slice U5 r.l.length rc2,.slice (eT XA xc gn) (xn - gn) (xc - gn)]:=hx8.aW 0 _;have hk9:bP (w8.setCell ⟨jb,0,none⟩ (.slice U5 r.l.length rc2)) U5 r.l:=hk2.keep (by rw[World.size_setCell];exact Nat.le_refl _) λ b cur hc=>Below.heap_setCell _ ⟨jb,0,none⟩ _ b λ e=>by have e:b=jb:=e;subst e;exact kO hc hx8 Taa rfl
  have WQ:u13.ownBlock≠some jb:=auk.ae;generalize w8.setCell ⟨jb,0,none⟩ (.slice U5 r.l.length rc2)=W9 at*;have fL:∀ {A:Option Addr} {l:List Val},bP W7 A l->bP W9 A l:=λ h=>h.keep g9.size λ b cur hc=>g9.block b hc.lt λ e=>by injection e with e;subst e;exact kO hc SP.ae Taa rfl
  have Gv:=aa (dy Gv.ae g9 HGL.ae);have wS:=aa (wS.ae.grown g9 WQ);have EH:=aa (EH.ae.grown g9 (λ e=>by injection e with e;exact kO EH.ae SP.ae Taa e));have VO:=aa (show∀x∈dL,bP W9 x.1.A x.1.l/\bP W9 x.2.A x.2.l/\x.1.l.length<=1000/\x.2.l.length=order.length from λ x hx=>by obtain⟨f1,f2,q3⟩:=VO.ae x hx;exact⟨fL f1,fL f2,q3⟩);obtain⟨nl,hnl⟩:∃nl:aN×aN,nl=(⟨U5,r.l,rc2⟩,⟨eT XA xc gn,l.drop gn,xc - gn⟩):=⟨_,rfl⟩;have HNL:=aa (show(eP nl).toArray= #[.slice U5 r.l.length rc2,.slice (eT XA xc gn) (xn - gn) (xc - gn)] by rw[hnl];unfold eP;dsimp only;rw[HDL.ae]);have PV:=aa (show Nh nl=⟨if items=[] then r.l else l.take items.length,l.drop items.length⟩ by rw[hnl,if_pos HIT.ae,HYI.ae];rfl);have HN8:=aa (show bP W9 nl.1.A nl.1.l/\bP W9 nl.2.A nl.2.l/\nl.1.l.length<=1000/\nl.2.l.length=order.length by
   rw[hnl]
   exact⟨hk9,(fL acb.ae).drop gn xc QH.ae,Qr.ae.1,WM.ae⟩)
  have z0:=bM.cell 0;have z1:=bM.cell 1;simp only[Uaa] at z0 z1;clear hnl hk9 bM hx8 hk2 tO b8 g9 WQ fL SP acb aot;have bN:=ah W9 (.cells #[.slice U5 r.l.length rc2,.slice (eT XA xc gn) (xn - gn) (xc - gn)] 91);have hG:=aC.new W9 91 #[.slice U5 r.l.length rc2,.slice (eT XA xc gn) (xn - gn) (xc - gn)];have mP:=aa (wS.ae.later bN);have Ju:=aa (EH.ae.later bN);have QJ:=aa (Below.trans Gv.ae (bN.mono Gv.ae.size));have ahN:=aa (show∀x∈dL,bP _ x.1.A x.1.l/\bP _ x.2.A x.2.l/\x.1.l.length<=1000/\x.2.l.length=order.length from λ x hx=>by obtain⟨f1,f2,q3⟩:=VO.ae x hx;exact⟨f1.later bN,f2.later bN,q3⟩);have HN1:=aa (HN8.ae.1.later bN);have HN2:=aa (HN8.ae.2.1.later bN);have Gm:=aa hG;have hbase:=QJ.ae.size;have hlk:=Aa.ae;clear bN hG wS EH Gv VO;go_wp2_with (first
   |(at_builtin
     refine aV (f:=eP) rfl (.tmp 133) (.tmp 135) 85 rfl _ 48 Tryz.underlying85 Tf rfl WC nl rfl (by simp[eP,Value.oneCell']) rfl mP.ae W9.heap.size rfl (by rw[HNL.ae];exact Gm.ae) WC WC hbase ?_
     intro v4 w4 o4 g4
     have O4:=aa o4
     have B4:=aa (Ju.ae.kr mP.ae Taa g4)
     have RW4:=aa (show∀x∈dL,bP w4 x.1.A x.1.l/\bP w4 x.2.A x.2.l/\x.1.l.length<=1000/\x.2.l.length=order.length from λ x hx=>by obtain⟨f1,f2,q3⟩:=ahN.ae x hx;exact⟨f1.own mP.ae Taa g4,f2.own mP.ae Taa g4,q3⟩)
     have N41:=aa (HN1.ae.own mP.ae Taa g4)
     have N42:=aa (HN2.ae.own mP.ae Taa g4)
     have Kx:=aa (Below.trans QJ.ae (bw mP.ae g4 hbase))
     clear o4 g4))
  exact Zcm
 ·have t3:((gn:Int)==0)=false:=by simp[Lw]
  have HIT:=aa (show items≠ [] from λ e=>Lw (by rw[<- HYI.ae,e];rfl));clear Lw;obtain⟨nl,hnl⟩:∃nl:aN×aN,nl=(⟨XA,l.take gn,gn⟩,⟨eT XA xc gn,l.drop gn,xc - gn⟩):=⟨_,rfl⟩;have HNL:=aa (show(eP nl).toArray= #[.slice XA gn gn,.slice (eT XA xc gn) (xn - gn) (xc - gn)] by rw[hnl];unfold eP;dsimp only;rw[qM.ae,HDL.ae]);have PV:=aa (show Nh nl=⟨if items=[] then r.l else l.take items.length,l.drop items.length⟩ by rw[hnl,if_neg HIT.ae,HYI.ae];rfl);have HN8:=aa (show bP W7 nl.1.A nl.1.l/\bP W7 nl.2.A nl.2.l/\nl.1.l.length<=1000/\nl.2.l.length=order.length by
   rw[hnl]
   exact⟨acb.ae.take gn,acb.ae.drop gn xc QH.ae,by show(l.take gn).length<=1000;rw[qM.ae,<- HYI.ae];exact Xd.ae HIT.ae,WM.ae⟩)
  have z0:=SP.ae.cell 0;have z1:=SP.ae.cell 1;simp only[Uaa] at z0 z1;clear hnl;go_upto_region 25 with fail
  clear c13;have bN:=ah W7 (.cells #[.slice XA gn gn,.slice (eT XA xc gn) (xn - gn) (xc - gn)] 91);have hG:=aC.new W7 91 #[.slice XA gn gn,.slice (eT XA xc gn) (xn - gn) (xc - gn)];have mP:=aa (wS.ae.later bN);have Ju:=aa (EH.ae.later bN);have QJ:=aa (Below.trans Gv.ae (bN.mono Gv.ae.size));have ahN:=aa (show∀x∈dL,bP _ x.1.A x.1.l/\bP _ x.2.A x.2.l/\x.1.l.length<=1000/\x.2.l.length=order.length from λ x hx=>by obtain⟨f1,f2,q3⟩:=VO.ae x hx;exact⟨f1.later bN,f2.later bN,q3⟩);have HN1:=aa (HN8.ae.1.later bN);have HN2:=aa (HN8.ae.2.1.later bN);have Gm:=aa hG;have hbase:=QJ.ae.size;have hlk:=Aa.ae;clear bN hG wS EH Gv VO;go_wp2_with (first
   |(at_builtin
     refine aV (f:=eP) rfl (.tmp 133) (.tmp 135) 85 rfl _ 48 Tryz.underlying85 Tf rfl WC nl rfl (by simp[eP,Value.oneCell']) rfl mP.ae W7.heap.size rfl (by rw[HNL.ae];exact Gm.ae) WC WC hbase ?_
     intro v4 w4 o4 g4
     have O4:=aa o4
     have B4:=aa (Ju.ae.kr mP.ae Taa g4)
     have RW4:=aa (show∀x∈dL,bP w4 x.1.A x.1.l/\bP w4 x.2.A x.2.l/\x.1.l.length<=1000/\x.2.l.length=order.length from λ x hx=>by obtain⟨f1,f2,q3⟩:=ahN.ae x hx;exact⟨f1.own mP.ae Taa g4,f2.own mP.ae Taa g4,q3⟩)
     have N41:=aa (HN1.ae.own mP.ae Taa g4)
     have N42:=aa (HN2.ae.own mP.ae Taa g4)
     have Kx:=aa (Below.trans QJ.ae (bw mP.ae g4 hbase))
     clear o4 g4))
  exact Zcm):p:=h
theorem zjb.Kcy(h:p:=by
 have hln:l.length=gn+no:=by rw[hlen,length_append,HYI.ae,HYO.ae]
 have LE:=aa hln;have xY:=aa (show gn<=l.length by omega);have HXC:=aa (show gn<=xc by omega);have QH:=aa hxl;have HEW:=aa (HF.ae.later vr.ae);obtain⟨xn,Ed⟩:∃xn,xn=l.length:=⟨_,rfl⟩;rw[<- Ed] at xY ⊢;have oO:=aa Ed;obtain⟨B1,Kt⟩:∃B1,B1=w5.heap.size:=⟨_,rfl⟩;have Ly:=aa Kt;clear A6 hln hxl Ed KK hlen Kt;go_upto_region 22 with fail;refine bC 21 (ahJ gp IA gn ic XA xn xc B1) (QU _ _ _ _ _ _ _ _) Vx Vx Vx ?_ ?_
 ·simp only[take_succ_cons,take_zero];refine⟨Zab,Zab,Zab,Zab,ZeD,Zab,Zab,Zab,Zab,ZeD,Zab,ZdM,Zab,Zab,Zab,Zab,ZeD,Zab,ZgE,Zex,?_,trivial⟩
  ·intro ρ W4 hc hL hr;exact aq (v:=aw W4.heap.size) (w':=W4.alloc (.cells #[az,az] 91)) (by simp[go_sem];done) ⟨ah _ _,_,rfl,aC.new _ _ _,by rw[Ly.ae];exact hL.size⟩
 intro W3 hL;simp only[Uab];rintro a0 - a1 - a2 - a3 - a4 - a5 - a6 - a7 - a8 - a9 - FN - C1 - a12 - a13 - a14 - a15 - a16 - a17 - a18 - _ rfl a20 ⟨jb,rfl,aeG,J1⟩;open ziP in exact ZgD):p:=h
theorem zhh.KbO(h:p:=by
 go_wp2_with fail;go_loopw [13,81] (λ lv i wr=>∃(k:Nat) (dL:List (aN×aN)),k<=zs.length/\i=af k/\aI eP 91 2 wr w.heap.size lv dL/\(∀x∈dL,bP wr x.1.A x.1.l/\bP wr x.2.A x.2.l/\x.1.l.length<=1000/\x.2.l.length=order.length)/\dL.map Nh=wX items order over (zs.take k)/\dL.length<=k/\aC wr gb 84 #[af (ea over (items++order) (zs.take k))]/\aj w wr) (λ _ i _=>zs.length - (intOf i).toNat);case atStart=>exact⟨0,[],Nat.zero_le _,rfl,aI.nil,(λ x hx=>by cases hx),rfl,Nat.le_refl _,E7.ae,Ly.ae⟩
 case round=>
  clear Ly E7;obtain⟨k,dL,hkr,rfl,Xe,hRW,hLS,Ou,hGB,hB⟩:=hrel;have Kh:=aa Xe;have IJ:=aa hRW;have J0:=aa hLS;have Aa:=aa Ou;have wP:=aa hGB;have HB:=aa hB;have hk9:k<=301:=by have:=HLEN.ae;omega
  clear Xe hRW hLS Ou hGB hB;by_cases hlt:k < zs.length
  ·obtain⟨b,off,rfl,kE,hcell,tO⟩:=(HH.ae.below HB.ae).at_ hlt;have Bp:=aa (tO.more HB.ae.size);have Qr:=aa (kF.ae zs[k] (getElem_mem hlt));have auh:=aa (show RV w w.heap.size zs[k].A zs[k].l from by obtain⟨_,_,_,_,_,h⟩:=HH.ae.at_ hlt;exact h);have E8:=aa (Dl (cols:=over) (ts:=items++order) hlt).2;have AY:=aa (VM (items:=items) (order:=order) (over:=over) hlt);generalize zs[k]=r at*;generalize ea over (items++order) (zs.take k)=FP at*;generalize wX items order over (zs.take k)=ls at*;obtain⟨res,hres⟩:∃res,res=bz over r.l (items++order):=⟨_,rfl⟩;rw[<- hres] at E8;have jG:=aa hres.symm;have pd:=aa (HF.ae.later HB.ae);obtain⟨E,hE⟩:∃E,E=yi++yo:=⟨_,rfl⟩;have qz:=aa hE;obtain⟨B0,hB0⟩:∃B0,B0=wr.heap.size:=⟨_,rfl⟩;have BN:=aa hB0;clear kE tO hres hE hB0;go_upto_region 20 with fail;clear hcell;refine bC 17 (ahI gp IA gn ic DA no dc OA over.length oc r.A r.l.length r.c E B0 res) (QT _ _ _ _ _ _ _ _ _ _ _ _ _ _ _ _) Vx Vx Vx ?_ ?_
   ·simp only[take_succ_cons,take_zero];refine⟨Zab,Zab,Zab,?_,Zab,Zab,Zab,?_,?_,?_,Zab,Zab,?_,?_,?_,?_,?_,trivial⟩
    ·intro ρ W4 hc hL hr;have h0:_=_:=hr.1;have c0:=(pd.ae.later hL).c13;exact Zce
    ·intro ρ W4 hc hL hr;have h0:_=_:=hr.1;have c0:=(pd.ae.later hL).c15;exact aq (w':=W4) (by simp[go_sem,h0,c0,<- HNO.ae];done) ⟨ai.refl _,rfl⟩
    ·intro ρ W4 hc hL hr;have h0:_=_:=hr.1;have h1:_=_:=hr.2.1;exact aq (v:=aF W4.heap.size 2 2) (w':=W4.alloc (.cells #[.slice IA gn ic,.slice DA no dc] 23)) Tav ⟨ah _ _,_,rfl,aC.new _ _ _⟩
    ·intro ρ W4 hc hL hr;obtain⟨gB0,h0,cL⟩:∃gB:Nat,ρ (.tmp 94)=aF gB 2 2/\aC W4 gB 23 #[.slice IA gn ic,.slice DA no dc]:=hr.1;have e1:=hc.func 35;refine bD (f:=35) (args:= #[aF gB0 2 2]) (w':=W4) TaA ?_;refine(uN (some ⟨gB0,0,none⟩) 2 [⟨IA,ic,yi⟩,⟨DA,dc,yo⟩] W4 Tac (by simpa [lC] using Ur.ae) ?_).mono ?_
     ·refine⟨gB0,0,rfl,cL.lt,λ i x hx=>?_⟩
      match i,hx with
      | 0,hx=>simp at hx;subst hx;refine⟨?_,(pd.ae.later hL).ri⟩;exact Zgn
      | 1,hx=>simp at hx;subst hx;refine⟨?_,(pd.ae.later hL).ro⟩;have cQ:=cL.cell 1;simp only[Uaa] at cQ;rw[Nat.zero_add,cQ,HNO.ae]
      | n+2,hx=>simp at hx
     ·exact Zes
    ·intro ρ W4 hc hL hr;obtain⟨v70,h0,cL⟩:∃v7:Value,ρ (.tmp 95)=v7/\uY W4 B0 v7 E:=hr.1;have h1:_=_:=hr.2.1;have h2:_=_:=hr.2.2.1;obtain⟨EA,ec,he,GD⟩:=sj (show aI bI 46 7 W4 B0 v70 E from cL);rw[qz.ae] at he GD;subst he;have e1:=hc.func 34;refine bD (f:=34) (args:= #[.slice EA (yi++yo).length ec,.slice OA over.length oc,.slice r.A r.l.length r.c]) (w':=W4) (by simp[go_sem,e1,h0,h1,h2];done) ?_;refine(Gq over OA oc r.l r.A r.c (items++order) (yi++yo) EA ec W4 Vs.ae (by have:=Qr.ae.1;omega) Qr.ae.2 je.ae (Tr.all_append (pd.ae.later hL).ti (pd.ae.later hL).eE) Am.ae GD (pd.ae.later hL).rc (Bp.ae.later hL)).mono ?_;exact Zdb
    ·intro ρ W4 hc hL hr;obtain⟨Vy,Vz,h0,cL⟩:∃x0 x1:Value,ρ (.tmp 98)=.tuple #[x0,x1]/\nP res W4 B0 x0 x1:=hr.1;exact ZgV
    ·intro ρ W4 hc hL hr;obtain⟨Vy,Vz,h0,cL⟩:∃x0 x1:Value,ρ (.tmp 85)=.tuple #[x0,x1]/\nP res W4 B0 x0 x1:=hr.1;exact Zdx
    ·intro ρ W4 hc hL hr;obtain⟨Vy,Vz,h0,cL⟩:∃x0 x1:Value,ρ (.tmp 85)=.tuple #[x0,x1]/\nP res W4 B0 x0 x1:=hr.1;exact Zg3
    ·intro ρ W4 hc hL hr;obtain⟨Vy,Vz,h0,cL⟩:∃x0 x1:Value,ρ (.tmp 99)=x0/\nP res W4 B0 x0 x1:=hr.1;exact Zdx
   intro W5 hL;simp only[Uab];rintro a0 - a1 - a2 - a3 - a4 - a5 - a6 - a7 - a8 - a9 - FN - C1 - a12 - a13 - a14 - _ rfl a16 ⟨axF,axG,rfl,aeF⟩;simp only[bF,Act.put,Uac];have eN:=aa (Below.trans HB.ae (hL.mono HB.ae.size));have Aq:=aa (wP.ae.later hL);have QF:=aa (Kh.ae.later hL);have aoq:=aa (show∀x∈dL,bP W5 x.1.A x.1.l/\bP W5 x.2.A x.2.l/\x.1.l.length<=1000/\x.2.l.length=order.length from λ x hx=>by obtain⟨f1,f2,q3⟩:=IJ.ae x hx;exact⟨f1.later hL,f2.later hL,q3⟩);have aui:=aa (Bp.ae.later hL);have HWB:=aa aeF;have HBL:=aa (show w.heap.size<=B0 by rw[BN.ae];exact HB.ae.size);clear HB wP Kh IJ hL aeF Bp pd BN;go_wp2_with fail;refine(wj gb FP (nG res) _ Aq.ae).mono ?_;rintro e w5 ⟨rfl,Iq,Jd⟩;have QG:=aa Iq;have vr:=aa (dy eN.ae Jd (by rw[mO.ae];exact Nat.le_refl _));have MQ:=aa (QF.ae.grown Jd (QF.ae.other Aq.ae Taa));have fL:∀ {A:Option Addr} {l:List Val},bP W5 A l->bP w5 A l:=λ h=>h.keep Jd.size λ b cur hc=>Jd.block b hc.lt λ e=>by injection e with e;subst e;exact kO hc Aq.ae Taa rfl
   have ahL:=aa (show∀x∈dL,bP w5 x.1.A x.1.l/\bP w5 x.2.A x.2.l/\x.1.l.length<=1000/\x.2.l.length=order.length from λ x hx=>by obtain⟨f1,f2,q3⟩:=aoq.ae x hx;exact⟨fL f1,fL f2,q3⟩);have AQ:=aa (show∀l,res=.ok l->aI aX 44 3 w5 B0 a16 l from λ l hl=>by
    have h1:=HWB.ae
    rw[hl] at h1
    exact h1.2.grown Jd (h1.2.other Aq.ae Taa))
   clear Iq Jd eN Aq QF aoq HWB fL aui
   cases res with
   | error er=>
     have hne:=GH jG.ae;have t1:(nG (.error er)==0)=false:=by show(er==0)=false;simp[hne]
     have jg:=aa E8.ae;have xu:=aa (show uI (Dz items order over r.l)=none by unfold Dz;rw[jG.ae];rfl);clear hne AQ;go_wp2_with fail;go_roundw
     case rel=>
      refine⟨k+1,dL,hlt,by go_num,MQ.ae,ahL.ae,?_,Nat.le_succ_of_le Aa.ae,?_,vr.ae⟩
      ·rw[AY.ae,xu.ae];simpa using J0.ae
      ·rw[jg.ae];exact QG.ae
     case measure=>exact Za6
   | ok l=>have jg:=aa (show ea over (items++order) (zs.take (k+1))=rE FP 0 from E8.ae);have xu:=aa (show uI (Dz items order over r.l)=some ⟨if items=[] then r.l else l.take items.length,l.drop items.length⟩ by unfold Dz;rw[jG.ae];rfl);have hlen:=Dk jG.ae;open zjb in exact Zhe
  ·have fL:k=zs.length:=by omega
   subst fL;have HTT:=aa (show zs.take zs.length=zs from take_length);rw[HTT.ae] at J0 wP;obtain⟨LA,lc,hlv,_⟩:=Kh.ae.reads;subst hlv;go_wp2_with fail;refine IM.ae _ _ ?_;clear IM;refine wp_seq_k λ K3 hK3=>?_
   have CY:=aa hK3;clear hK3;have d0:=wP.ae.cell 0;simp only[getElem?_toArray,getElem?_cons_zero] at d0;obtain⟨le,hle⟩:∃le,le=ea over (items++order) zs:=⟨_,rfl⟩;rw[<- hle] at d0;have acf:=aa hle;clear hle;by_cases Lw:le=0
   ·have t1:(le != 0)=false:=by simp[Lw]
    have HZ:=aa (show ea over (items++order) zs=0 by rw[<- acf.ae];exact Lw);clear Lw;go_wp2_with fail;exact CY.ae _ _ (HO.ae HZ.ae _ _ LA lc dL rfl rfl rfl rfl rfl HB.ae Kh.ae IJ.ae J0.ae Aa.ae)
   ·have t1:(le != 0)=true:=by simp[Lw]
    have HZ:=aa (show ea over (items++order) zs≠0 by rw[<- acf.ae];exact Lw);have Zx:aC wr g6 33 #[az,az,af 0]:=B9.ae.later HB.ae;have QS:=aa Zx;have HK:=aa (show aC wr gb 84 #[af le] by rw[acf.ae];exact wP.ae);clear Lw Zx;go_upto_region 28 with fail;clear d0;refine bC 4 (ahK gb le) (QV _ _) Vx Vx Vx ?_ ?_
    ·simp only[take_succ_cons,take_zero];refine⟨ZgY,Zab,ZbA,?_,trivial⟩
     ·intro ρ W4 hc hL hr;have h0:_=_:=hr.1;have h1:_=_:=hr.2.1;have HX:=QS.ae.later hL;open zeI in exact Zb5
    intro W6 hL;simp only[Uab];rintro _ rfl _ rfl _ rfl;simp only[bF,Act.put,Uac];have Zx:aC W6 g6 33 #[az,az,af 0]:=QS.ae.later hL;have bK:w.grownBy W6 (some g6):=aT (Below.trans HB.ae (hL.mono HB.ae.size));go_wp2_with fail;refine HE.ae HZ.ae _ _ rfl rfl ?_ Zx bK;rw[<- acf.ae];rfl):p:=h
theorem zjp.KcF(h:p:=by
 obtain⟨gn,hni⟩:∃gn,gn=yi.length:=⟨_,rfl⟩;obtain⟨no,hno⟩:∃no,no=yo.length:=⟨_,rfl⟩;have IH:=aa hni;have HNO:=aa hno;have hyi:=dY QC.ti;have hyo:=dY QC.eE;have HYI:=aa (show items.length=gn by rw[hyi,hni]);have HYO:=aa (show order.length=no by rw[hyo,hno]);have Ur:=aa (show yi.length+yo.length<=1000000 by omega);have Am:=aa (show(yi++yo).length<=1599289640356 by rw[length_append];omega);clear hh hE hO QC Jt Th hz Ny DS Ti QD hX Zx hni hno hyi hyo;simp only[ez,fA,Tryz.f11,Option.getD_some];refine wp_seq_k λ K0 hK=>?_
 have DY:=aa hK;clear hK;go_wp2_with fail;refine DY.ae _ _ ?_;clear DY;have b1:=ah w (.cells #[af 0] 84);have k1:=aC.new w 84 #[af 0];have Ly:=aa b1;have E7:=aa k1;clear b1 k1;obtain⟨gb,Hs⟩:∃gb,gb=w.heap.size:=⟨_,rfl⟩;have mO:=aa Hs;rw[<- Hs] at E7 ⊢;generalize w.alloc (.cells #[af 0] 84)=W1 at*;open zhh in exact ZeR):p:=h
theorem VN (w0:World)(gp g3 g6:Nat)(items order:List Tr)(over:List aZ)(yi yo:List Ex)(IA:Option Addr)(ic:Nat)(DA:Option Addr)(dc:Nat)(OA:Option Addr)(oc:Nat)(zs:List aN)(EA0:Option Addr)(ec0:Nat)(T:Array Value)(hT:T.size=183)
  (h3:T.getD 3 undef=aw g3) (h6:T.getD 6 undef=aw g6) (h8:T.getD 8 undef=aw gp) (h10:T.getD 10 undef=.slice EA0 zs.length ec0) (h11:T.getD 11 undef=.slice OA over.length oc) (d:List Deferred) (w:World) (Q:Exit->Act->World->Prop)
  (QC:Nj w gp items order over yi yo IA ic DA dc OA) (Jt:Tr.cP (items++order)) (Th:items.length<=100000) (hz:order.length<=1000000 - 100000) (Ny:over.length<=140737488355328) (DS:items≠ []->items.length<=1000)
  (Ti:RR w w.heap.size EA0 zs) (QD:zs.length<=301) (hX:∀r∈zs,r.l.length<=1000/\∀v∈r.l,v.Ok) (Zx:aC w g6 33 #[az,az,af 0])
  (hE:ea over (items++order) zs≠0->∀a W,a.defers=d->a.tmps.getD 6 undef=aw g6->a.tmps.getD 7 undef=af (ea over (items++order) zs)->aC W g6 33 #[az,az,af 0]->w.grownBy W (some g6)->Q .ret a W)
  (hO:ea over (items++order) zs=0->∀(T':Array Value) W LA lc (dL:List (aN×aN)),T'.size=183->T'.getD 3 undef=aw g3->T'.getD 6 undef=aw g6->T'.getD 8 undef=aw gp->T'.getD 13 undef=.slice LA dL.length lc->aj w W->aI eP 91 2 W w.heap.size (.slice LA dL.length lc) dL->(∀x∈dL,bP W x.1.A x.1.l/\bP W x.2.A x.2.l/\x.1.l.length<=1000/\x.2.l.length=order.length)->dL.map Nh=wX items order over zs->dL.length<=zs.length->(fA ez 12).wp Tryz.prog Q { tmps:=T',defers:=d } W):
  (fA ez 8).wp Tryz.prog Q { tmps:=T,defers:=d } w:=by
 obtain⟨f,rfl⟩:=yN T hT;have h3:f 3=_:=h3;have h6:f 6=_:=h6;have h8:f 8=_:=h8;have h10:f 10=_:=h10;have h11:f 11=_:=h11;simp only[Xk,h3,h6,h8,h10,h11];clear h3 h6 h8 h10 h11;clear h3 h6 h8 h10 h11 hT;have hh:=λ h0 (T':Array Value) W LA lc dL a0 a1 a2 a3 a4 a5 a6 a7 a8 a9=>hO h0 T' W LA lc dL a0 a1 a2 a3 a4 a5 a6 a7 a8 a9
 simp only[ez,fA,Tryz.f11,Option.getD_some] at hh;have HO:=aa hh;open zjp in exact ZhS
structure J2 (t:Tr) (s:dE) (r:Except Int (Tr×Int×dE)):Prop where
 err:∀e,r=.error e->e≠0
 ok:∀y k s',r=.ok (y,k,s')->t.ok->y.ok
 len:∀y k s',r=.ok (y,k,s')->s'.aL.length+s'.aM.length<=s.aL.length+s.aM.length+2*t.nodes
 aok:∀y k s',r=.ok (y,k,s')->t.ok->Tr.cP s.aM->Tr.cP s'.aM
theorem lL (g:Bool)(aL:List Tr)(cols:List aZ)(t:Tr)(s:dE):J2 t s (pB g aL cols t s):=by
 unfold pB;split
 ·split
  ·rename_i h1 h2;exact Zfm
  ·refine⟨λ e h=> Tah,λ y k s' h ht=>?_,λ y k s' h=>?_,λ y k s' h _ ha=>?_⟩;all_goals (injection h with h;injection h with h1 h2;injection h2 with h2 h3)
   ·rw[<- h1];exact ht
   ·rw[<- h3];omega
   ·rw[<- h3];exact ha
 ·have hf:=iE aL cols t s
  cases hr:Tr.turn aL cols t s with
  | error e=>dsimp only;exact⟨λ e2 h=>by injection h with h;rw[<- h];exact hf.err _ hr,λ _ _ _ h=> Tah,λ _ _ _ h=> Tah,λ _ _ _ h=> Tah⟩
  | ok p=>
    obtain⟨y,s'⟩:=p;dsimp only;split
    ·rename_i h2;exact Zfm
    ·refine⟨λ e h=> Tah,λ y2 k s2 h ht=>?_,λ y2 k s2 h=>?_,λ y2 k s2 h ht ha=>?_⟩;all_goals (injection h with h;injection h with h1 h2;injection h2 with h2 h3)
     ·rw[<- h1];exact hf.ok _ _ hr ht
     ·rw[<- h3];exact hf.len _ _ hr
     ·rw[<- h3];exact hf.aok _ _ hr ht ha
def ug (l:List Tr):Except Int (List Tr×dE)->Except Int (List Tr×dE)
 | .error e=> .error e
 | .ok (ys,s)=> .ok (l++ys,s)
theorem GR (x:Except Int (List Tr×dE)):ug [] x=x:=by exact ZhV
theorem DB (l:List Tr)(y:Tr)(x:Except Int (List Tr×dE)):ug l (match x with | .error e=> .error e | .ok (ys,s)=> .ok (y::ys,s))=ug (l++ [y]) x:=by
 cases x with
 | error e=>rfl
 | ok p=>obtain⟨ys,s⟩:=p;show Except.ok (l++y::ys,s)=Except.ok ((l++ [y])++ys,s);rw[append_assoc];rfl
variable{ts:List Tr}
theorem ve(h:k < ts.length):Tr.aY (ts.drop k)=ts[k].nodes+Tr.aY (ts.drop (k+1)):=by rw[drop_eq_getElem_cons h,gh,gh,map_cons,sum_cons]
def qG (a:Act)(d:List Deferred)(g4 g5:Nat):Prop:=a.defers=d/\a.tmps.getD 4 undef=aw g4/\a.tmps.getD 5 undef=aw g5
def wY (w0:World)(g4 g5 D:Nat)(w:World):Prop:=aj w0 w/\w0.heap.size<=g4/\w0.heap.size<=g5/\g4≠g5/\g4≠D/\g5≠D/\aC w g4 72 #[.pointer none]/\aC w g5 34 #[af 0]/\w.heap[D]?=some (.deferred (some []))
def jd (w:World)(g4 g5:Nat)(er:Int):World:=(w.setCell ⟨g4,0,none⟩ (.pointer none)).setCell ⟨g5,0,none⟩ (af er)
def jr (w:World)(g4 g5 gp:Nat):World:=(w.setCell ⟨g4,0,none⟩ (aw gp)).setCell ⟨g5,0,none⟩ (af 0)
variable{w0:World}{g2 g4 g5 D:Nat}{qc:Array Value}{R:Nat->Value}
theorem PlF.J3(h:PlF w0 gp g2 qc g4 g5 D R w):wY w0 g4 g5 D w:=⟨h.base,h.new.1,h.new.2.1,h.new.2.2.1,h.new.2.2.2.1,h.new.2.2.2.2,h.z4,h.z5,h.dd⟩
theorem wY.later(h:wY w0 g4 g5 D w)(hb:aj w w'):wY w0 g4 g5 D w':=by
 obtain⟨h1,h2,h3,h4,h5,h6,h7,h8,h9⟩:=h;refine⟨Below.trans h1 (hb.mono h1.size),h2,h3,h4,h5,h6,h7.later hb,h8.later hb,(hb.block D ?_).trans h9⟩;rcases Nat.lt_or_ge D w.heap.size with h | h
 ·exact h
 ·rw[Array.getElem?_eq_none h] at h9;cases h9
variable{S:Nat->Prop}{y:Ex}
theorem mJ{t:Tr} (h:Tr.aQ w S [t] [y]):t.at_ w S y:=by unfold Tr.aQ at h;obtain⟨y2,ys,e,h1,_⟩:=h;injection e with e _;rw[e];exact h1
variable{c:PC}{r:Rest}{u v u' v':Value}{ya:List Ex}{s:dE}{hd:List aZ}{yh:List Ex}{th:List Tr}
theorem cT.err{ti eE:List Tr}(h:cT c w0 gp g2 qc g4 g5 D r w u v ya s hd yi yh yo ti th eE)(hs:gM gp w u v w' u' v'):wY w0 g4 g5 D w':=by refine⟨Below.trans h.f.base (hs.low h.f.base.size h.f.low (λ q hq=>(h.f.rows 0 WC q hq).1) (λ q hq=>(h.f.rows 1 WC q hq).1)),h.f.new.1,h.f.new.2.1,h.f.new.2.2.1,h.f.new.2.2.2.1,h.f.new.2.2.2.2,hs.blk h.f.z4 (h.kp2 h.f.k4),hs.blk h.f.z5 (h.kp2 h.f.k5),(hs.block D (h.kp2 h.f.kD)).trans h.f.dd⟩
theorem zcw.Kat(h:p:=by go_wp2_with fail;exact HE.ae er _ _ (kF.ae.symm.trans oO.ae) nV.ae ⟨rfl,rfl,rfl⟩ HW.ae):p:=h
theorem zeB.KaR(h:p:=by simp[go_sem,h,z0,z1,x2,x3,x4,x5,x6,bI]):p:=h
theorem ziZ.Kcu(h:p:=by have J5:=aa (tq.ae.ane (by rw[Vt.ae] at zE ⊢;exact zE) (mJ GU.ae));exact ZcN):p:=h
theorem zgk.Kbq(h:p:=by
 obtain⟨RA,rc,tO,_⟩:=tq.ae.o5.reads;have Ak:=aa tq.ae.o5;have HL7:=aa (show yh.length<=1000000 by have:=HH.ae;have:=qM.ae;have:=B9.ae;omega);have Am:=aa Vu;clear Vu;dsimp only at tO Ak;subst tO;obtain⟨r1,hr1⟩:∃r1:Rest,r1= { r with o:=Value.slice RA yh.length rc }:=⟨_,rfl⟩;have Vt:=aa hr1;rw[<- hr1] at tq GU;clear hr1;go_wp2_with fail;refine Gz (gp:=gp) (k:=15) (B:=w0.heap.size) (gx:=gY) (cs:=c.cells r1 u' v') (r:=Value.slice RA yh.length rc) (ys:=yh) (y:=Kx) (s0:=6) (s1:=28) (d0:=239) (d1:=240) (d2:=241) (d3:=242) (d4:=243) (d5:=244) (d6:=245) (d7:=246) (d8:=247) (d10:=248) (d11:=249) Vx Vx Vx rfl rfl ?_ ?_ ?_ ?_ ?_ ?_ ?_ ?_ ?_ ?_ ?_ ?_ ?_ ?_ tq.ae.f.base.size tq.ae.blk Ak.ae HL7.ae NR.ae Tk.ae.1 Tk.ae.2 ?_
 ·exact ZeN
 ·exact ZeN
 ·exact ZeN
 ·intro ρ w h hc;simp[go_sem,h,hc]
 ·intro ρ w h hb;open zeB in exact ZbO
 ·exact ZeN
 ·intro ρ w hc;simp[go_sem,hc.const,bI,wO]
 ·exact ZeV
 ·exact Zhy
 ·rfl
 ·exact ZeN
 ·exact ZeN
 ·intro ρ w A1 n1 c1 h1 h2 hc hf;simp[go_sem,h1,h2,hc,hf]
 ·rw[Vt.ae];rfl
 open ziZ in exact Zg9):p:=h
theorem zbP.Kal(h:p:=by
 clear k1;go_wp2_with fail;clear z0 z1 x2 x3 x4 x5 x6;refine(Dd c w0 gp { r with o:=rv } t y s1 u1 v1 Jo W2 je.ae kx.ae xq.ae uh.ae.ps TaT).mono ?_;intro e w6 hp;have vt:=aa (lL c.aK c.aL c.cols t s1)
 cases hr:pB c.aK c.aL c.cols t s1 with
 | error er=>
   have jR:=vo.ae;rw[hr] at hp vt jR;obtain⟨Kx,ty,u',v',rfl,hst⟩:=hp;have her:=vt.ae.err _ rfl;have xr:X=.error er:=by rw[uV.ae,jR];rfl
   have oO:=aa xr;have nV:=aa her;have t1:(er != 0)=true:=by simp[her]
   have bg:=ah w6 (.cells (ay Kx) 46);have HW:=aa ((uh.ae.err hst).later bg);clear xr hr her hst jR vt vo uh bg;go_upto_region 50 with fail;generalize w6.alloc (.cells (ay Kx) 46)=WD at*;obtain⟨_,_,_,vg,_,_,b4,b5,_⟩:=HW.ae;open zcw in exact ZaM
 | ok p=>
   obtain⟨t2,ty,s2⟩:=p;have jR:=vo.ae;rw[hr] at hp vt jR;obtain⟨Kx,u',v',C8,rfl,uU,pV,hst⟩:=hp;have sy:=uh.ae.call hst pV;have VQ:=uh.ae.tree hst pV uU;have bg:=ah w6 (.cells (ay Kx) 46);have HX:=aC.new w6 46 (ay Kx);have tq:=aa (sy.later bg);have GU:=aa ((Dg.later (w0:=w0) (gp:=gp) (R:=PR u' v' { r with o:=rv }) bg).trees (Tr.fP VQ));have Tk:=aa (show w6.heap.size≠gp/\rv.ownBlock≠some w6.heap.size from⟨by have:=sy.f.lt;omega,λ e=>by have:=(sy.f.rows 5 WC _ e).2.1;omega⟩);have DD:=aa (vt.ae.len _ _ _ rfl);have EO:=aa (show X=ug (eE++ [t2]) (eu c.aK c.aL c.cols (q.ord.drop (k+1)) s2) by
    rw[uV.ae,jR]
    exact DB eE t2 _)
   have Vu:=sy.t5.length;clear hr jR hst pV uU sy VQ bg vt vo uV uh;go_upto_region 50 with fail;open zgk in exact ZdF):p:=h
theorem zi7.Kcw(h:p:=by
 rw[hn,<- Zx] at z6;clear hE QC Jt Th hz Ny DS Ti QD hX hP hR KK hn Zx;simp only[bL,fA,Tryz.f28,Option.getD_some];go_wp2_with fail;clear z6;go_loopw [224] (λ i wr=>∃(k:Nat) (rv u1 v1:Value) (Jo yh:List Ex) (s1:dE) (eE:List Tr),k<=zs.length/\i=af k/\cT c w0 gp g2 (fW q L) g4 g5 D { r with o:=rv } wr u1 v1 Jo s1 hd yi Lw yh ti th eE/\X=ug eE (eu c.aK c.aL c.cols (q.ord.drop k) s1)/\s1.aL.length+s1.aM.length+2*Tr.aY ((q.ord.map (·.1)).drop k)<=1000000/\eE.length=k) (λ i _=>zs.length - (intOf i).toNat);case atStart=>exact⟨0,r.o,u,v,ya,[],s,[],Nat.zero_le _,rfl,HP.ae,by rw[drop_zero,GR];exact kF.ae,by rw[drop_zero];exact HLEN.ae,rfl⟩
 case round=>
  clear HP;obtain⟨k,rv,u1,v1,Jo,yh,s1,eE,hk,rfl,hP,Tj,QD,SY⟩:=hrel;have uV:=aa Tj;have AY:=aa QD;have HP:=aa hP;have qM:=aa SY;clear Tj QD hP SY;by_cases hlt:k < zs.length
  ·have fK:k < q.ord.length:=by rw[<- B9.ae];exact hlt
   obtain⟨b,off,hA,Cw,hcell⟩:∃b off,L.o.A=some ⟨b,off,none⟩/\b < w0.heap.size/\cy w0 b (off+k*8) zs[k].1/\w0.cell? ⟨b,off+k*8+7,none⟩=some zs[k].2:=by exact Zib
   have hb8:zs[k].2=.bool (q.ord[k]'fK).2:=by have h1:=congrArg (λ l=>l[k]?) Vs.ae;simp only[getElem?_map,getElem?_eq_getElem hlt,getElem?_eq_getElem fK,Option.map_some] at h1;injection h1
   have se:(q.ord[k]'fK).1.at_ w0 (Old w0) zs[k].1:=by
    have hl2:k <((q.ord.map λ y=>(y.1,Value.bool y.2)).map (·.1)).length:=by simpa using fK
    obtain⟨Kx,h1,h2⟩:=pU hl2 Xd.ae;exact ZfS
   have gj:(q.ord[k]'fK).1.ok:=dN.1 HIL.ae _ (mem_map_of_mem (getElem_mem fK));have S5:Tr.aY ((q.ord.map (·.1)).drop k)=(q.ord[k]'fK).1.nodes+Tr.aY ((q.ord.map (·.1)).drop (k+1)):=by have h1:=ve (ts:=q.ord.map (·.1)) (k:=k) (by simpa using fK);simpa using h1
   have hdr:eu c.aK c.aL c.cols (q.ord.drop k) s1=(match pB c.aK c.aL c.cols (q.ord[k]'fK).1 s1 with
     | .error e=> .error e
     | .ok (Kx,_,s')=>match eu c.aK c.aL c.cols (q.ord.drop (k+1)) s' with
       | .error e=> .error e
       | .ok (ys,Lv)=> .ok (Kx::ys,Lv)):=by
    rw[drop_eq_getElem_cons fK];obtain⟨t,bb⟩:=q.ord[k];rfl
   rw[hb8] at hcell;generalize zs[k].1=y at*;generalize (q.ord[k]'fK).2=b8 at*;generalize (q.ord[k]'fK).1=t at*;obtain⟨hex,h7⟩:=hcell;have iC:=hex.keep (λ o=>HP.ae.f.base.cell (p:=⟨b,o,none⟩) Cw);have h72:=(HP.ae.f.base.cell (p:=⟨b,off+k*8+7,none⟩) Cw).trans h7;unfold cy at iC;have xq:=aa se;have kx:=aa gj;have U6:=aa S5;have vo:=aa hdr;have HAA:=aa hA;rw[hA];clear hex h7 se gj S5 hdr hA Cw hb8 fK;go_upto_region 49 with fail;clear iC h72;have k1:=aC.new wr 117 #[ag y.op,ag y.v.k,af y.v.n,.string y.v.s,.string y.name,af y.width,.slice y.A y.n y.c,.bool b8];have MI:=ah wr (.cells #[ag y.op,ag y.v.k,af y.v.n,.string y.v.s,.string y.name,af y.width,.slice y.A y.n y.c,.bool b8] 117);generalize wr.alloc (.cells #[ag y.op,ag y.v.k,af y.v.n,.string y.v.s,.string y.name,af y.width,.slice y.A y.n y.c,.bool b8] 117)=W2 at*;have uh:=aa (HP.ae.later MI);generalize wr.heap.size=g12 at*;clear HP MI;open zbP in exact ZaD
  ·have xm:k=zs.length:=by omega
   have hXo:X=.ok (eE,s1):=by rw[uV.ae,xm,B9.ae,drop_length];show Except.ok (eE++ [],s1)=_;rw[append_nil]
   have J6:=aa hXo;clear hXo;subst xm;have HW:=aa HP.ae.f.J3;obtain⟨_,_,_,vg,_,_,b4,b5,_⟩:=HW.ae;have c4:=b4.cell 0;have c5:=(b5.far (p:=⟨g4,0,none⟩) (Ne.symm vg) (aw gp)).cell 0;have f4:=b4.frozen 0;have f5:=(b5.far (p:=⟨g4,0,none⟩) (Ne.symm vg) (aw gp)).frozen 0;simp only[getElem?_toArray,getElem?_cons_zero] at c4 c5;clear b4 b5 vg;go_wp2_with fail;exact HF.ae _ _ _ u1 v1 Jo s1 yh eE (kF.ae.symm.trans J6.ae) ⟨rfl,rfl,rfl⟩ HP.ae):p:=h
theorem zjq.KcF(h:p:=by have HP:=aa hP;have hR:=hP.f.z2;unfold fW at hR;open zi7 in exact Zhb):p:=h
theorem zfK.Kbd(h:p:=by
 obtain⟨hn,zs,hz,Ny,DS⟩:=Xq;rw[length_map] at hn;have Zx:zs.length=q.ord.length:=by have:=congrArg List.length Ny;simpa using this
 have KK:=aa (show∃X,X=eu c.aK c.aL c.cols q.ord s from⟨_,rfl⟩);obtain⟨X,hX⟩:=KK.ae;open zjq in exact ZhS):p:=h
theorem VP (c:PC)(w0:World)(gp g2 g4 g5 D:Nat)(q:Qy)(L:QL)(r:Rest)(u v:Value)(ya:List Ex)(s:dE)(hd:List aZ)(yi Lw:List Ex)(ti th:List Tr)(T:Array Value)(hT:T.size=252)
  (h2:T.getD 2 undef=aw g2) (h4:T.getD 4 undef=aw g4) (h5:T.getD 5 undef=aw g5) (h6:T.getD 6 undef=aw gp) (d:List Deferred) (w:World) (Q:Exit->Act->World->Prop)
  (Jt:c.Ok w0) (Th:Tr.cP (q.ord.map (·.1))) (Xq:eQ w0 (q.ord.map λ y=>(y.1,.bool y.2)) L.o.A L.o.n) (Ti:q.ord.length<=1000000) (QD:s.aL.length+s.aM.length+2*Tr.aY (q.ord.map (·.1))<=1000000)
  (hP:cT c w0 gp g2 (fW q L) g4 g5 D r w u v ya s hd yi Lw [] ti th [])
  (hE:∀er a W,eu c.aK c.aL c.cols q.ord s=.error er->er≠0->qG a d g4 g5->wY w0 g4 g5 D W->Q .ret a (jd W g4 g5 er))
  (QC:∀a W r' u' v' qE s' yh eE,eu c.aK c.aL c.cols q.ord s=.ok (eE,s')->qG a d g4 g5->cT c w0 gp g2 (fW q L) g4 g5 D r' W u' v' qE s' hd yi Lw yh ti th eE->Q .ret a (jr W g4 g5 gp)):
  (fA bL 9).wp Tryz.prog Q { tmps:=T,defers:=d } w:=by
 open zfK in exact ZcZ
variable{x x':Except Int (List Tr×dE)}
theorem QW(l:List Tr)(y:Tr) (h:x'=(match x with | .error e=> .error e | .ok (ys,s)=> .ok (y::ys,s))):ug l x'=ug (l++ [y]) x:=by rw[h];exact DB l y x
theorem zcx.Kat(h:p:=by go_wp2_with fail;exact HE.ae er _ _ (.inl (jH.ae.symm.trans oO.ae)) nV.ae ⟨rfl,rfl,rfl⟩ HW2.ae):p:=h
theorem zcy.Kat(h:p:=by go_wp2_with fail;exact HE.ae 40 _ _ (.inl (jH.ae.symm.trans oO.ae)) Taa ⟨rfl,rfl,rfl⟩ HW2.ae):p:=h
theorem zeC.KaR(h:p:=by simp[go_sem,h,z0,z1,x2,x3,x4,x5,x6,bI]):p:=h
theorem zgi.Kbp(h:p:=by go_upto_region 41 with fail;generalize w6.alloc (.cells (ay Kx) 46)=WD at*;go_wp2_with fail;refine(uz ty er WD).mono ?_;rintro e zv ⟨rfl,JG⟩;rw[BQ nV.ae];have HW2:=aa (HW.ae.later JG);clear HW JG;obtain⟨_,_,_,vg,_,_,b4,b5,_⟩:=HW2.ae;open zcx in exact ZaM):p:=h
theorem zi0.Kcu(h:p:=by have J5:=aa (tq.ae.anc (by rw[Vt.ae] at zE ⊢;exact zE) (mJ GU.ae));exact ZcN):p:=h
theorem zgl.Kbq(h:p:=by
 have Am:=aa Vu;clear Vu;go_wp2_with fail;refine(uz ty 0 WD).mono ?_;rintro e zv ⟨rfl,JG⟩;rw[FM]
 cases hgo:cj ty 1 with
 | false=>
   rw[if_pos rfl];have oO:=aa (show X=.error 40 by
    rw[uV.ae,II.ae]
    show ug eE (if cj ty 1=false then _ else _)=_
    rw[if_pos hgo]
    rfl)
   have HW2:=aa (tq.ae.f.J3.later JG);clear JG tq GU NR hgo II;obtain⟨_,_,_,vg,_,_,b4,b5,_⟩:=HW2.ae;open zcy in exact ZaM
 | true=>
   rw[if_neg Taa];have EO:=aa (show X=ug (eE++ [t2]) (dB c.aK c.aL c.cols (q.ft.drop (k+1)) s2) by
    rw[uV.ae,II.ae]
    refine QW eE t2 ?_
    show(if cj ty 1=false then _ else _)=_
    rw[if_neg (by rw[hgo];decide)])
   have HPA:=aa (tq.ae.later JG);have aoy:=aa ((Dg.later (w0:=w0) (gp:=gp) (R:=PR u' v' { r with j:=rv }) JG).trees GU.ae);have HYA:=aa (NR.ae.later JG);clear tq GU NR JG uV II hgo;have tq:=HPA;have GU:=aoy;have NR:=HYA;clear HPA aoy HYA;obtain⟨RA,rc,tO,_⟩:=tq.ae.o4.reads;have Ak:=aa tq.ae.o4;have HL7:=aa (show yh.length<=1000000 by have:=HH.ae;have:=qM.ae;have:=B9.ae;have:=Am.ae;omega);dsimp only at tO Ak;subst tO;obtain⟨r1,hr1⟩:∃r1:Rest,r1= { r with j:=Value.slice RA yh.length rc }:=⟨_,rfl⟩;have Vt:=aa hr1;rw[<- hr1] at tq GU;clear hr1;go_wp2_with fail;refine Gz (gp:=gp) (k:=14) (B:=w0.heap.size) (gx:=gY) (cs:=c.cells r1 u' v') (r:=Value.slice RA yh.length rc) (ys:=yh) (y:=Kx) (s0:=6) (s1:=22) (d0:=209) (d1:=210) (d2:=211) (d3:=212) (d4:=213) (d5:=214) (d6:=215) (d7:=216) (d8:=217) (d10:=218) (d11:=219) Vx Vx Vx rfl rfl ?_ ?_ ?_ ?_ ?_ ?_ ?_ ?_ ?_ ?_ ?_ ?_ ?_ ?_ tq.ae.f.base.size tq.ae.blk Ak.ae HL7.ae NR.ae Tk.ae.1 Tk.ae.2 ?_
   ·exact ZeN
   ·exact ZeN
   ·exact ZeN
   ·intro ρ w h hc;simp[go_sem,h,hc]
   ·intro ρ w h hb;open zeC in exact ZbO
   ·exact ZeN
   ·intro ρ w hc;simp[go_sem,hc.const,bI,wO]
   ·exact ZeV
   ·exact Zhy
   ·rfl
   ·exact ZeN
   ·exact ZeN
   ·intro ρ w A1 n1 c1 h1 h2 hc hf;simp[go_sem,h1,h2,hc,hf]
   ·rw[Vt.ae];rfl
   open zi0 in exact Zg9):p:=h
theorem zbQ.Kal(h:p:=by
 clear k1;go_wp2_with fail;clear z0 z1 x2 x3 x4 x5 x6;refine(Dd c w0 gp { r with j:=rv } t y s1 u1 v1 Jo W2 IH.ae kx.ae xq.ae uh.ae.ps TaT).mono ?_;intro e w6 hp;have vt:=aa (lL c.aK c.aL c.cols t s1)
 cases hr:pB c.aK c.aL c.cols t s1 with
 | error er=>
   open zgi in exact ZdE
 | ok p=>obtain⟨t2,ty,s2⟩:=p;have jR:=vo.ae;rw[hr] at hp vt jR;obtain⟨Kx,u',v',C8,rfl,uU,pV,hst⟩:=hp;have sy:=uh.ae.call hst pV;have VQ:=uh.ae.tree hst pV uU;have bg:=ah w6 (.cells (ay Kx) 46);have HX:=aC.new w6 46 (ay Kx);have tq:=aa (sy.later bg);have GU:=aa ((Dg.later (w0:=w0) (gp:=gp) (R:=PR u' v' { r with j:=rv }) bg).trees (Tr.fP VQ));have Tk:=aa (show w6.heap.size≠gp/\rv.ownBlock≠some w6.heap.size from⟨by have:=sy.f.lt;omega,λ e=>by have:=(sy.f.rows 4 WC _ e).2.1;omega⟩);have DD:=aa (vt.ae.len _ _ _ rfl);have II:=aa jR;have Vu:=sy.t4.length;clear hr jR hst pV uU sy VQ bg vt vo uh;go_upto_region 41 with fail;open zgl in exact ZdF):p:=h
theorem zhE.KbY(h:p:=by clear HP MI;open zbQ in exact ZaD):p:=h
theorem zdL.KaH(h:p:=by
 have HP:=aa DS;have b2:=DS.f.z2;unfold fW at b2;have c5:=b2.cell 5;simp only[Uaa] at c5;rw[hn,<- Ny] at c5;clear hE hF ih q1 q2 q3 q4 q5 AP Aj fq hz DS b2 hn Ny;simp only[bL,fA,Tryz.f28,Option.getD_some];go_wp2_with fail;clear c5;go_loopw [192] (λ i wr=>∃(k:Nat) (rv u1 v1:Value) (Jo yh:List Ex) (s1:dE) (eE:List Tr),k<=zs.length/\i=af k/\cT c w0 gp g2 (fW q L) g4 g5 D { r with j:=rv } wr u1 v1 Jo s1 hd yi yh [] ti eE []/\X=ug eE (dB c.aK c.aL c.cols (q.ft.drop k) s1)/\s1.aL.length+s1.aM.length+2*Tr.aY (q.ft.drop k)+2*Tr.aY (q.ord.map (·.1))<=1000000/\eE.length=k) (λ i _=>zs.length - (intOf i).toNat);case atStart=>exact⟨0,r.j,u,v,ya,[],s,[],Nat.zero_le _,rfl,HP.ae,by rw[drop_zero,GR];exact jH.ae,by rw[drop_zero];exact Ay.ae,rfl⟩
 case round=>
  rename_i K hK;clear HP;obtain⟨k,rv,u1,v1,Jo,yh,s1,eE,hk,rfl,DS,Tj,fq,SY⟩:=hrel;have uV:=aa Tj;have AY:=aa fq;have HP:=aa DS;have qM:=aa SY;clear Tj fq DS SY;by_cases hlt:k < zs.length
  ·have fK:k < q.ft.length:=by rw[<- B9.ae];exact hlt
   obtain⟨b,off,hA,Cw,hex⟩:∃b off,L.h.A=some ⟨b,off,none⟩/\b < w0.heap.size/\cy w0 b (off+k*7) zs[k]:=by exact Zib
   have se:(q.ft[k]'fK).at_ w0 (Old w0) zs[k]:=by obtain⟨Kx,h1,h2⟩:=pU fK oQ.ae;rw[getElem?_eq_getElem hlt] at h1;injection h1 with h1;rw[h1];exact h2
   have gj:(q.ft[k]'fK).ok:=dN.1 Q1.ae _ (getElem_mem fK);have S5:Tr.aY (q.ft.drop k)=(q.ft[k]'fK).nodes+Tr.aY (q.ft.drop (k+1)):=ve fK;have hdr:dB c.aK c.aL c.cols (q.ft.drop k) s1=(match pB c.aK c.aL c.cols (q.ft[k]'fK) s1 with
     | .error e=> .error e
     | .ok (Kx,k2,s')=>if cj k2 1=false then .error 40 else match dB c.aK c.aL c.cols (q.ft.drop (k+1)) s' with
       | .error e=> .error e
       | .ok (ys,Lv)=> .ok (Kx::ys,Lv)):=by
    rw[drop_eq_getElem_cons fK];rfl
   generalize zs[k]=y at*;generalize (q.ft[k]'fK)=t at*;have iC:=hex.keep (λ o=>HP.ae.f.base.cell (p:=⟨b,o,none⟩) Cw);unfold cy at iC;have xq:=aa se;have kx:=aa gj;have U6:=aa S5;have vo:=aa hdr;have HAA:=aa hA;rw[hA];clear hex se gj S5 hdr hA Cw fK;go_upto_region 40 with fail;open zhE in exact Ze4
  ·have xm:k=zs.length:=by omega
   have J6:=aa (show X=.ok (eE,s1) by
    rw[uV.ae,xm,B9.ae,drop_length]
    show Except.ok (eE++ [],s1)=_
    rw[append_nil])
   subst xm
   have key:∀T:Array Value,T.size=252->T.getD 2 undef=aw g2->T.getD 4 undef=aw g4->T.getD 5 undef=aw g5->T.getD 6 undef=aw gp->(fA bL 9).wp Tryz.prog Q { tmps:=T,defers:=d } wr:=λ T hT h2 h4 h5 h6=>
    VP c w0 gp g2 g4 g5 D q L { r with j:=rv } u1 v1 Jo s1 hd yi yh ti eE T hT h2 h4 h5 h6 d wr Q IH.ae Q3.ae Q4.ae ZV.ae (by have:=AY.ae;omega) HP.ae
     (λ er a W he hne ha hw=>HE.ae er a W (.inr ⟨eE,s1,jH.ae.symm.trans J6.ae,he⟩) hne ha hw)
     (λ a W r' u' v' qE s' yo KK he ha hp=>HF.ae a W r' u' v' qE s1 s' yh yo eE KK (jH.ae.symm.trans J6.ae) he ha hp)
   exact ZcB):p:=h
theorem zfL.Kbd(h:p:=by obtain⟨hn,zs,q5,AP⟩:=U7;have Ny:zs.length=q.ft.length:=AP.length;obtain⟨X,hz⟩:∃X,X=dB c.aK c.aL c.cols q.ft s:=⟨_,rfl⟩;have HE:=aa hE;open zdL in exact Zbm):p:=h
theorem QX (c:PC)(w0:World)(gp g2 g4 g5 D:Nat)(q:Qy)(L:QL)(r:Rest)(u v:Value)(ya:List Ex)(s:dE)(hd:List aZ)(yi:List Ex)(ti:List Tr)(T:Array Value)(hT:T.size=252)
  (h2:T.getD 2 undef=aw g2) (h4:T.getD 4 undef=aw g4) (h5:T.getD 5 undef=aw g5) (h6:T.getD 6 undef=aw gp) (d:List Deferred) (w:World) (Q:Exit->Act->World->Prop)
  (ih:c.Ok w0) (q1:Tr.cP q.ft) (U7:fU w0 q.ft L.h.A L.h.n) (q2:q.ft.length<=1000000) (q3:Tr.cP (q.ord.map (·.1))) (q4:eQ w0 (q.ord.map λ y=>(y.1,.bool y.2)) L.o.A L.o.n) (Aj:q.ord.length<=1000000) (fq:s.aL.length+s.aM.length+2*Tr.aY q.ft+2*Tr.aY (q.ord.map (·.1))<=1000000)
  (DS:cT c w0 gp g2 (fW q L) g4 g5 D r w u v ya s hd yi [] [] ti [] [])
  (hE:∀er a W,(dB c.aK c.aL c.cols q.ft s=.error er\/∃eE s',dB c.aK c.aL c.cols q.ft s=.ok (eE,s')/\eu c.aK c.aL c.cols q.ord s'=.error er)->er≠0->qG a d g4 g5->wY w0 g4 g5 D W->Q .ret a (jd W g4 g5 er))
  (hF:∀a W r' u' v' qE s1 s' yh yo eE KK,dB c.aK c.aL c.cols q.ft s=.ok (eE,s1)->eu c.aK c.aL c.cols q.ord s1=.ok (KK,s')->qG a d g4 g5->cT c w0 gp g2 (fW q L) g4 g5 D r' W u' v' qE s' hd yi yh yo ti eE KK->Q .ret a (jr W g4 g5 gp)):
  (fA bL 8).wp Tryz.prog Q { tmps:=T,defers:=d } w:=by
 open zfL in exact ZcZ
structure JH (gp B:Nat) (W:World) (cs:Array Value) (ri rh:Value) (yi:List Ex) (y:Ex) (hd:List aZ) (EP:aZ) (s5 s7 s8 ER Tl:Option Value) (U8:Bool) (w:World):Prop where
 e5:∀x,s5=some x->x=ri
 e8:s8.isSome=true->s5.isSome=true/\s7.isSome=true
 e21:U8=true->s8.isSome=true
 U9:Tl.isSome=true->ER.isSome=true
 z7:s8=none->∀x,s7=some x->∃g,x=aF g 1 1/\aC w g 46 (bI y).toArray
 z17:Tl=none->∀x,ER=some x->∃g,x=aF g 1 1/\aC w g 113 (aU EP).toArray
 items:aI bI 46 7 w B (s8.getD ri) (yi++if s8.isSome=true then [y] else [])
 head:aI aU 113 2 w B (Tl.getD rh) (hd++if Tl.isSome=true then [EP] else [])
 mvi:Mv W ri (s8.getD ri)
 mvh:Mv W rh (Tl.getD rh)
 blk:aC w gp 81 (if U8=true then cs.setIfInBounds 13 (s8.getD ri)else cs)
 far:∀b,b < W.heap.size->b≠gp->ri.ownBlock≠some b->rh.ownBlock≠some b->w.heap[b]?=W.heap[b]?
 os:w.os=W.os
 tape:w.tape=W.tape
 output:w.output=W.output
 size:W.heap.size<=w.heap.size
section
variable {gp B:Nat} {W w w':World} {cs:Array Value} {ri rh:Value} {yi:List Ex} {y:Ex} {hd:List aZ} {EP:aZ} {s5 s7 s8 ER Tl:Option Value} {U8:Bool}
theorem JH.later (h:JH gp B W cs ri rh yi y hd EP s5 s7 s8 ER Tl U8 w)(hb:aj w w'):JH gp B W cs ri rh yi y hd EP s5 s7 s8 ER Tl U8 w':=
 ⟨h.e5,h.e8,h.e21,h.U9,λ h1 x hx=>by obtain⟨g,k1,k2⟩:=h.z7 h1 x hx;exact⟨g,k1,k2.later hb⟩,λ h1 x hx=>by obtain⟨g,k1,k2⟩:=h.z17 h1 x hx;exact⟨g,k1,k2.later hb⟩,h.items.later hb,h.head.later hb,h.mvi,h.mvh,h.blk.later hb,λ b h1 h2 h3 h4=>(hb.block b (Nat.lt_of_lt_of_le h1 h.size)).trans (h.far b h1 h2 h3 h4),hb.os.trans h.os,hb.tape.trans h.tape,hb.output.trans h.output,Nat.le_trans h.size hb.size⟩
theorem JH.auv (h:JH gp B W cs ri rh yi y hd EP s5 s7 none ER Tl false w)(h5:s5.isSome=true)(h7:s7.isSome=true) {a:Value}(ho:aI bI 46 7 w' B a (yi++ [y]))(hg:w.grownBy w' ri.ownBlock)(hm:Mv w ri a):JH gp B W cs ri rh yi y hd EP s5 s7 (some a) ER Tl false w':=by
 have hi:aI bI 46 7 w B ri yi:=by simpa using h.items
 refine⟨h.e5,λ _=>⟨h5,h7⟩,λ _=>rfl,h.U9,(λ e=>by cases e),λ h1 x hx=>by obtain⟨g,k1,k2⟩:=h.z17 h1 x hx;exact⟨g,k1,dC k2 hi Taa hg⟩,ho,h.head.past hi Taa hg,hm.later h.size,h.mvh,dC h.blk hi Taa hg,λ b h1 h2 h3 h4=>(hg.block b (Nat.lt_of_lt_of_le h1 h.size) (Ne.symm h3)).trans (h.far b h1 h2 h3 h4),hg.os.trans h.os,hg.tape.trans h.tape,hg.output.trans h.output,Nat.le_trans h.size hg.size⟩
theorem JH.aoz (h:JH gp B W cs ri rh yi y hd EP s5 s7 s8 ER none U8 w)(h8:s8.isSome=true)(h17:ER.isSome=true) {a:Value}(ho:aI aU 113 2 w' B a (hd++ [EP]))(hg:w.grownBy w' rh.ownBlock)(hm:Mv w rh a):JH gp B W cs ri rh yi y hd EP s5 s7 s8 ER (some a) U8 w':=by
 have hi:aI aU 113 2 w B rh hd:=by simpa using h.head
 refine⟨h.e5,h.e8,h.e21,λ _=>h17,λ e=>by(rw[e] at h8;cases h8),(λ e=>by cases e),h.items.past hi Taa hg,ho,h.mvi,hm.later h.size,dC h.blk hi Taa hg,λ b h1 h2 h3 h4=>(hg.block b (Nat.lt_of_lt_of_le h1 h.size) (Ne.symm h4)).trans (h.far b h1 h2 h3 h4),hg.os.trans h.os,hg.tape.trans h.tape,hg.output.trans h.output,Nat.le_trans h.size hg.size⟩
theorem JH.aoA (h:JH gp B W cs ri rh yi y hd EP s5 s7 s8 ER Tl false w)(h8:s8.isSome=true):JH gp B W cs ri rh yi y hd EP s5 s7 s8 ER Tl true (w.setCell ⟨gp,13,none⟩ (s8.getD ri)):=by
 have kQ:aC w gp 81 cs:=h.blk;have hn8:s8≠none:=λ e=>by rw[e] at h8;cases h8
 have hf:=λ b (hb:b≠gp)=>Below.heap_setCell w ⟨gp,13,none⟩ (s8.getD ri) b hb
 have hz:∀ {g:Nat} {t:TypeId} {c:Array Value},aC w g t c->t≠81->g≠gp:=λ k1 k2 e=>by subst e;have:=k1.symm.trans kQ;injection this with this;injection this with _ this _;exact k2 this
 refine⟨h.e5,h.e8,λ _=>h8,h.U9,λ e=>absurd e hn8,λ h1 x hx=>by obtain⟨g,k1,k2⟩:=h.z17 h1 x hx;exact⟨g,k1,(hf g (hz k2 Taa)).trans k2⟩,h.items.keep λ g hg2=>hf g λ e=>h.items.other kQ Taa Taj,h.head.keep λ g hg2=>hf g λ e=>h.head.other kQ Taa Taj,h.mvi,h.mvh,kQ.aW 13 _,λ b h1 h2 h3 h4=>(hf b h2).trans (h.far b h1 h2 h3 h4),h.os,h.tape,h.output,by rw[World.size_setCell];exact h.size⟩
end
def qN (gp B:Nat)(W:World)(cs:Array Value)(ri rh:Value)(yi:List Ex)(y:Ex)(hd:List aZ)(EP:aZ)(σ:Nat->Option Value)(w:World):Prop:=JH gp B W cs ri rh yi y hd EP (σ 5) (σ 7) (σ 8) (σ 17) (σ 18) (σ 21).isSome w
variable{B:Nat}{W:World}{cs:Array Value}{rh:Value}{EP:aZ}{s5 s7 s8 ER Tl:Option Value}{U8:Bool}
theorem JH.c12{ri:Value}      (h:JH gp B W cs ri rh yi y hd EP s5 s7 s8 ER Tl U8 w)(hch:cs[12]?=some rh):w.cell? ⟨gp,12,none⟩=some rh:=by
 rw[h.blk.cell]
 cases U8 with
 | false=>exact hch
 | true=>rw[if_pos rfl,Array.getElem?_setIfInBounds_ne WC];exact hch
variable{P:Program}{o:Oper}{ρ:Operand->Value}{T:Value->World->Prop}
theorem QY(h:(execOp ρ o).run P w=.ok .skip w')(ht:T undef w'):zJ P o ρ w T:=by unfold zJ;rw[h];exact ht
def sB (n:Nat):Code->Option Code
 | .region id ops b=>if id=n then some (.region id ops b)else none
 | .seq a b=>match sB n a with | some c=>some c | none=>sB n b
 | .cond _ a b=>match sB n a with | some c=>some c | none=>sB n b
 | .block _ c=>sB n c
 | .loop c=>sB n c
 | _=>none
noncomputable def DG:Code:=(sB 35 (fA bL 7)).getD .skip
def lbU (gp:Nat)(rh:Value)(y:Ex)(nm:ByteArray)(ty:Int)(g16:Nat):Nat->Value:=λ i=>if i=0 then(aw gp)else if i=1 then(aw gp)else if i=2 then(aw gp)else if i=3 then(aw gp)else if i=4 then(bj gp 13)else if i=6 then(.agg (bI y).toArray)else if i=9 then(aw gp)else if i=10 then(aw gp)else if i=11 then(bj gp 12)else if i=12 then(rh)else if i=13 then(bj g16 7)else if i=14 then(.string nm)else if i=15 then(ag ty)else if i=16 then(.agg (aU ⟨nm,ty⟩).toArray)else if i=19 then(aw gp)else if i=20 then(bj gp 13)else undef
section
variable {gp B gY g16:Nat} {W:World} {cs:Array Value} {ri rh:Value} {yi:List Ex} {y:Ex} {hd:List aZ} {nm:ByteArray} {ty:Int} {Q:Exit->Act->World->Prop} {T:Array Value} {d:List Deferred}
theorem zez.KaR(h:p:=by show(execOp ρ _).run Tryz.prog w=.ok (.value (.agg (bI y).toArray)) w;simp[go_sem,r0,z0,z1,x2,x3,x4,x5,x6,bI]):p:=h
theorem DI (hT:T.size=252)(es0:T.getD 6 undef=aw gp)(es1:T.getD 17 undef=aw gY)(es2:T.getD 16 undef=aw g16)(es3:T.getD 18 undef=ag ty)
  (S6:cs[13]?=some ri) (hch:cs[12]?=some rh) (hB:B<=W.heap.size) (hblk:aC W gp 81 cs) (hoi:aI bI 46 7 W B ri yi) (hoh:aI aU 113 2 W B rh hd) (Ny:yi.length<=1000000) (hlh:hd.length<=1000000)
  (Xl:aC W gY 46 (bI y).toArray) (hY1:gY≠gp) (hY2:ri.ownBlock≠some gY) (hY3:rh.ownBlock≠some gY) (hn:W.cell? ⟨g16,7,none⟩=some (.string nm)) (hN0:g16 < W.heap.size) (hN1:g16≠gp) (hN2:ri.ownBlock≠some g16) (hN3:rh.ownBlock≠some g16)
  (mn:∀ach aci z167 z168 acj ack z171 acm z173 acn z175 aco acp acr acs acu acv z182 z183 acw acx acy acz w a b s7 ER,JH gp B W cs ri rh yi y hd ⟨nm,ty⟩ (some ri) s7 (some a) ER (some b) true w->Q .normal { tmps:=(((((((((((((((((((((((T.setIfInBounds 165 ach).setIfInBounds 166 aci).setIfInBounds 167 z167).setIfInBounds 168 z168).setIfInBounds 169 acj).setIfInBounds 170 ack).setIfInBounds 171 z171).setIfInBounds 172 acm).setIfInBounds 173 z173).setIfInBounds 174 acn).setIfInBounds 175 z175).setIfInBounds 176 aco).setIfInBounds 177 acp).setIfInBounds 178 acr).setIfInBounds 179 acs).setIfInBounds 180 acu).setIfInBounds 181 acv).setIfInBounds 182 z182).setIfInBounds 183 z183).setIfInBounds 184 acw).setIfInBounds 185 acx).setIfInBounds 186 acy).setIfInBounds 187 acz),defers:=d } (w.setCell ⟨gp,12,none⟩ b)):
  DG.wp Tryz.prog Q { tmps:=T,defers:=d } W:=by
 obtain⟨f,rfl⟩:=kS T hT;have es0:f 6=_:=es0;have es1:f 17=_:=es1;have es2:f 16=_:=es2;have es3:f 18=_:=es3;unfold DG;simp only[bL,fA,Tryz.f28,Option.getD_some,sB,Nat.reduceEqDiff,if_true,if_false];refine zb _ _ (take_append_drop 22 _).symm (lbU gp rh y nm ty g16) [5,7,8,17,18,21] (qN gp B W cs ri rh yi y hd ⟨nm,ty⟩) (λ σ w h=>JH.later h (Below.refl _ _).drew) ⟨(λ x e=>by cases e),(λ e=>by cases e),(λ e=>by cases e),(λ e=>by cases e),(λ _ x e=>by cases e),(λ _ x e=>by cases e),by simpa using hoi,by simpa using hoh,Mv.refl _ _,Mv.refl _ _,hblk,λ _ _ _ _ _=>rfl,rfl,rfl,rfl,Nat.le_refl _⟩ Vx Vx Vx Vx ?_ ?_
 ·simp only[take_succ_cons,take_zero];refine⟨ZcG,ZcG,ZcG,?_,?_,?_,?_,?_,?_,ZcG,?_,?_,?_,?_,?_,?_,?_,?_,?_,?_,?_,?_,trivial⟩
  ·intro ρ w σ hc hG hr he hno;have r0:ρ (.tmp 167)=aw gp:=hr.1;exact Zbb
  ·intro ρ w σ hc hG hr he hno;have r0:ρ (.tmp 168)=aw gp:=hr.1;exact Zfw
  ·intro ρ w σ hc hG hr he hno;have r0:ρ (.tmp 169)=bj gp 13:=hr.1;refine⟨rfl,?_⟩;unfold qN at hG;rw[if_pos Taa];have BP:=hno Taa
   have h8n:σ 8=none:=by
    cases h:σ 8 with
    | none=>rfl
    | some a=>have:=(hG.e8 (by rw[h];rfl)).1;rw[BP] at this;cases this
   have acA:(σ 21).isSome=false:=by
    cases h:(σ 21).isSome with
    | false=>rfl
    | true=>have:=hG.e21 h;rw[h8n] at this;cases this
   have hb:=hG.blk;rw[acA] at hb;have hb:aC w gp 81 cs:=hb;have c13:=(hb.cell 13).trans S6;refine aq (v:=ri) (w':=w) (by simp[go_sem,r0,c13]) ?_;show qN _ _ _ _ _ _ _ _ _ _ _ _;unfold qN;simp only[oz,Nat.reduceEqDiff,if_true,if_false];exact⟨λ x e=>by injection e with e;exact e.symm,λ e=>⟨rfl,(hG.e8 e).2⟩,hG.e21,hG.U9,hG.z7,hG.z17,hG.items,hG.head,hG.mvi,hG.mvh,hG.blk,hG.far,hG.os,hG.tape,hG.output,hG.size⟩
  ·intro ρ w σ hc hG hr he hno;have r0:ρ (.tmp 17)=aw gY:=(show ρ (.tmp 17)=f 17 from hr.1).trans es1;refine⟨rfl,?_⟩;unfold qN at hG;rw[if_neg Taa];have hb:aC w gY 46 (bI y).toArray:=(hG.far gY Xl.lt hY1 hY2 hY3).trans Xl;open zez in exact ZbO
  ·intro ρ w σ hc hG hr he hno;have r0:ρ (.tmp 171)=.agg (bI y).toArray:=hr.1;refine⟨rfl,?_⟩;unfold qN at hG;rw[if_pos Taa];have BP:=hno Taa;refine aq (v:=aF w.heap.size 1 1) (w':=w.alloc (.cells (bI y).toArray 46)) (by simp[go_sem,r0,bI]) ?_;show qN _ _ _ _ _ _ _ _ _ _ _ _;unfold qN;simp only[oz,Nat.reduceEqDiff,if_true,if_false];have hA:=hG.later (ah w (.cells (bI y).toArray 46));exact⟨hA.e5,λ e=>⟨(hA.e8 e).1,rfl⟩,hA.e21,hA.U9,λ _ x e=>by injection e with e;exact⟨w.heap.size,e.symm,aC.new w _ _⟩,hA.z17,hA.items,hA.head,hA.mvi,hA.mvh,hA.blk,hA.far,hA.os,hA.tape,hA.output,hA.size⟩
  ·intro ρ w σ hc hG hr he hno;have r0:σ 5=some (ρ (.tmp 170)):=hr.1;have r1:σ 7=some (ρ (.tmp 172)):=hr.2.1;refine⟨rfl,?_⟩;unfold qN at hG;rw[if_pos Taa];have BP:=hno Taa;have h5s:=he 5 (cM.1 Vx) Taa;have h7s:=he 7 (cM.1 Vx) Taa;rw[BP] at hG
   have acA:(σ 21).isSome=false:=by
    cases h:(σ 21).isSome with
    | false=>rfl
    | true=>have:=hG.e21 h;cases this
   rw[acA] at hG;obtain⟨Kx,hz1,hz2⟩:=hG.z7 rfl _ r1;have q0:=hG.e5 _ r0;have ahR:aI bI 46 7 w B ri yi:=by simpa using hG.items
   obtain⟨v',w',hrun,ho,yS,Eu⟩:=eO (P:=Tryz.prog) (w:=w) 23 23 _ 88 Tryz.underlying23 fM rfl WC (λ _=>rfl) (y:=y) TaC ahR Kx hz2 WC WC (Nat.le_trans hB hG.size);refine aq (v:=v') (w':=w') (by simp only[execOp,resolve,invoke,builtin,Sem.run_bind,Sem.run_pure,Result.andThen_ok,map_toArray,map_cons,map_nil,q0,hz1,hrun]) ?_;show qN _ _ _ _ _ _ _ _ _ _ _ _;unfold qN;simp only[oz,Nat.reduceEqDiff,if_true,if_false,acA];exact hG.auv h5s h7s ho yS.grown Eu
  ·intro ρ w σ hc hG hr he hno;have r0:ρ (.tmp 174)=aw gp:=hr.1;exact Zbb
  ·intro ρ w σ hc hG hr he hno;have r0:ρ (.tmp 175)=aw gp:=hr.1;refine⟨rfl,?_⟩;unfold qN at hG;rw[if_neg Taa];show(execOp ρ _).run Tryz.prog w=.ok (.value (bj gp 12)) w;simp[go_sem,r0]
  ·intro ρ w σ hc hG hr he hno;have r0:ρ (.tmp 176)=bj gp 12:=hr.1;refine⟨rfl,?_⟩;unfold qN at hG;rw[if_neg Taa];have c12:=hG.c12 hch;show(execOp ρ _).run Tryz.prog w=.ok (.value (rh)) w;simp[go_sem,r0,c12]
  ·intro ρ w σ hc hG hr he hno;have r0:ρ (.tmp 16)=aw g16:=(show ρ (.tmp 16)=f 16 from hr.1).trans es2;refine⟨rfl,?_⟩;unfold qN at hG;rw[if_neg Taa];show(execOp ρ _).run Tryz.prog w=.ok (.value (bj g16 7)) w;simp[go_sem,r0]
  ·intro ρ w σ hc hG hr he hno;have r0:ρ (.tmp 178)=bj g16 7:=hr.1;refine⟨rfl,?_⟩;unfold qN at hG;rw[if_neg Taa];have cn:=(bJ (hG.far g16 hN0 hN1 hN2 hN3) 7).trans hn;show(execOp ρ _).run Tryz.prog w=.ok (.value (.string nm)) w;simp[go_sem,r0,cn]
  ·intro ρ w σ hc hG hr he hno;have r0:ρ (.tmp 18)=ag ty:=(show ρ (.tmp 18)=f 18 from hr.1).trans es3;refine⟨rfl,?_⟩;unfold qN at hG;rw[if_neg Taa];show(execOp ρ _).run Tryz.prog w=.ok (.value (ag ty)) w;simp[go_sem,r0]
  ·intro ρ w σ hc hG hr he hno;have r0:ρ (.tmp 179)=.string nm:=hr.1;have r1:ρ (.tmp 180)=ag ty:=hr.2.1;refine⟨rfl,?_⟩;unfold qN at hG;rw[if_neg Taa];show(execOp ρ _).run Tryz.prog w=.ok (.value (.agg (aU ⟨nm,ty⟩).toArray)) w;simp[go_sem,r0,r1,aU]
  ·intro ρ w σ hc hG hr he hno;have r0:ρ (.tmp 181)=.agg (aU ⟨nm,ty⟩).toArray:=hr.1;refine⟨rfl,?_⟩;unfold qN at hG;rw[if_pos Taa];have BP:=hno Taa;refine aq (v:=aF w.heap.size 1 1) (w':=w.alloc (.cells (aU ⟨nm,ty⟩).toArray 113)) (by simp[go_sem,r0,aU]) ?_;show qN _ _ _ _ _ _ _ _ _ _ _ _;unfold qN;simp only[oz,Nat.reduceEqDiff,if_true,if_false];have hA:=hG.later (ah w (.cells (aU ⟨nm,ty⟩).toArray 113));exact⟨hA.e5,hA.e8,hA.e21,λ _=>rfl,hA.z7,λ _ x e=>by injection e with e;exact⟨w.heap.size,e.symm,aC.new w _ _⟩,hA.items,hA.head,hA.mvi,hA.mvh,hA.blk,hA.far,hA.os,hA.tape,hA.output,hA.size⟩
  ·intro ρ w σ hc hG hr he hno;have r0:ρ (.tmp 177)=rh:=hr.1;have r1:σ 17=some (ρ (.tmp 182)):=hr.2.1;refine⟨rfl,?_⟩;unfold qN at hG;rw[if_pos Taa];have BP:=hno Taa;have h8s:=he 8 (cM.1 Vx) Taa;have auz:=he 17 (cM.1 Vx) Taa;rw[BP] at hG;obtain⟨Kx,hz1,hz2⟩:=hG.z17 rfl _ r1;have ahR:aI aU 113 2 w B rh hd:=by simpa using hG.head
   obtain⟨v',w',hrun,ho,yS,Eu⟩:=eO (P:=Tryz.prog) (w:=w) 28 28 _ 24 Tryz.underlying28 rT rfl WC (λ _=>rfl) (y:=⟨nm,ty⟩) Ta1 ahR Kx hz2 WC WC (Nat.le_trans hB hG.size);refine aq (v:=v') (w':=w') (by simp only[execOp,resolve,invoke,builtin,Sem.run_bind,Sem.run_pure,Result.andThen_ok,map_toArray,map_cons,map_nil,r0,hz1,hrun]) ?_;show qN _ _ _ _ _ _ _ _ _ _ _ _;unfold qN;simp only[oz,Nat.reduceEqDiff,if_true,if_false];exact hG.aoz h8s auz ho yS.grown Eu
  ·intro ρ w σ hc hG hr he hno;have r0:ρ (.tmp 165)=aw gp:=hr.1;exact Zbb
  ·intro ρ w σ hc hG hr he hno;have r0:ρ (.tmp 184)=aw gp:=hr.1;exact Zfw
  ·intro ρ w σ hc hG hr he hno;have r0:ρ (.tmp 185)=bj gp 13:=hr.1;have r1:σ 8=some (ρ (.tmp 173)):=hr.2.1;refine⟨rfl,?_⟩;unfold qN at hG;rw[if_pos Taa];have BP:=hno Taa;have h8s:=he 8 (cM.1 Vx) Taa;obtain⟨a,ha⟩:=Option.isSome_iff_exists.1 h8s;rw[BP] at hG;rw[ha] at r1;injection r1 with r1;have kQ:aC w gp 81 cs:=hG.blk;have hit:=hG.items;rw[ha] at hit;obtain⟨q,c,e1,_,_⟩:=hit.block Tac;have e1:a=aF q _ c:=e1;have q1:=r1.symm.trans e1;have c13:=(kQ.cell 13).trans S6;have f13:=kQ.frozen 13;have hp:=JH.aoA hG h8s;rw[ha,e1] at hp;refine QY (w':=w.setCell ⟨gp,13,none⟩ (aF q (yi++if (some a).isSome=true then [y] else []).length c)) (by simp[go_sem,r0,q1,c13,f13]) ?_;show qN _ _ _ _ _ _ _ _ _ _ _ _;unfold qN;simp only[oz,Nat.reduceEqDiff,if_true,if_false,Option.isSome_some];rw[ha,e1];exact hp
 ·intro σ w hall hG;simp only[Uab];obtain⟨a,ha⟩:=Option.isSome_iff_exists.1 (hall 8 Taa);obtain⟨b,hb⟩:=Option.isSome_iff_exists.1 (hall 18 Taa);have h21:=hall 21 Taa;unfold qN at hG;obtain⟨x5,h5⟩:=Option.isSome_iff_exists.1 (hall 5 Taa);have h5e:=hG.e5 _ h5;rw[ha,hb,h21,h5,h5e] at hG;intro a0 q0 a1 q1 a2 q2 a3 q3 a4 q4 a5 q5 a6 q6 a7 q7 a8 q8 a9 q9 FN Ul C1 q11 a12 q12 a13 q13 a14 q14 a15 q15 a16 q16 a17 q17 a18 q18 a19 q19 a20 q20;have e1:a1=aw gp:=q1;have U9:σ 18=some a18:=q18;rw[hb] at U9;injection U9 with U9;clear q0 q1 q2 q3 q4 q5 q6 q7 q8 q9 Ul q11 q12 q13 q14 q15 q16 q17 q18 q19 q20;subst e1 U9;have J8:=hG.head;obtain⟨qq,cc,hqq,_,_⟩:=J8.block Tac;have hqq:b=aF qq _ cc:=hqq;have c12:=hG.c12 hch;have f12:=hG.blk.frozen 12;simp only[bZ,bF,Act.put,Uac];simp only[bZ,Uac] at mn;have HF:=aa mn;have HG:=aa hG;clear mn hG J8;obtain⟨n9,hn9⟩:∃n9,n9=(hd++if (some b).isSome=true then [(⟨nm,ty⟩:aZ)] else []).length:=⟨_,rfl⟩;rw[<- hn9] at hqq;clear hn9;subst hqq;go_wp2_with fail;refine HF.ae _ _ _ _ _ _ _ _ _ _ _ _ _ _ _ _ _ _ _ _ _ _ _ _ _ _ _ _ HG.ae
end
section
variable {c:PC} {w0 w w1:World} {gp g2 g4 g5 D:Nat} {qc:Array Value} {r:Rest} {u v:Value} {ya:List Ex} {s:dE} {hd:List aZ} {yi yh yo:List Ex} {ti th eE:List Tr}
theorem cT.QZ (h:cT c w0 gp g2 qc g4 g5 D r w u v ya s hd yi yh yo ti th eE) {t:Tr} {y:Ex} {a b:Value} {EP:aZ} {s7 ER:Option Value}(hl:JH gp w0.heap.size w (c.cells r u v) r.i r.h yi y hd EP (some r.i) s7 (some a) ER (some b) true w1)(ht:t.at_ w (tD w gp (PR u v r)) y):
  cT c w0 gp g2 qc g4 g5 D { r with h:=b,i:=a } (w1.setCell ⟨gp,12,none⟩ b) u v ya s (hd++ [EP]) (yi++ [y]) yh yo (ti++ [t]) th eE:=by
 have kQ:aC w1 gp 81 ((c.cells r u v).setIfInBounds 13 a):=hl.blk;have hi:aI bI 46 7 w1 w0.heap.size a (yi++ [y]):=hl.items;have hh:aI aU 113 2 w1 w0.heap.size b (hd++ [EP]):=hl.head;have hf:=λ k (hk:k≠gp)=>Below.heap_setCell w1 ⟨gp,12,none⟩ b k hk
 have Kg:aI bI 46 7 (w1.setCell ⟨gp,12,none⟩ b) w0.heap.size a (yi++ [y]):=hi.keep λ g hg2=>hf g λ e=>hi.other kQ Taa Taj
 have hh2:aI aU 113 2 (w1.setCell ⟨gp,12,none⟩ b) w0.heap.size b (hd++ [EP]):=hh.keep λ g hg2=>hf g λ e=>hh.other kQ Taa Taj
 have hb2:aC (w1.setCell ⟨gp,12,none⟩ b) gp 81 (c.cells { r with h:=b,i:=a } u v):=kQ.aW 12 b;have hab:∀q,a.ownBlock=some q->b.ownBlock≠some q:=λ q h1 h2=>by obtain⟨_,_,_,e1⟩:=hi.lt h1;obtain⟨_,_,_,e2⟩:=hh.lt h2;rw[e1] at e2;injection e2 with e2;injection e2 with _ e2 _;exact absurd e2 Taa
 have p:Dg w0 gp (PR u v r) (PR u v { r with h:=b,i:=a }) (λ i=>i=2\/i=3) w (w1.setCell ⟨gp,12,none⟩ b):=by
  refine⟨hl.os,hl.tape,hl.output,by rw[World.size_setCell];exact hl.size,λ k h1 h2 h3=>(hf k h2).trans (hl.far k h1 h2 (h3 3 WC (.inr rfl)) (h3 2 WC (.inl rfl))),?_,?_,?_,?_⟩
  ·intro i hi hT
   match i with
   | 0 | 1 | 4 | 5=>rfl
   | 2=>exact absurd (.inl rfl) hT
   | 3=>exact absurd (.inr rfl) hT
   | n+6=>omega
  ·intro i hi hT;rcases hT with rfl | rfl
   ·exact hl.mvh
   ·exact hl.mvi
  ·intro i hi j hj hT hU kY q h1 h2;rcases hT with rfl | rfl <;> rcases hU with rfl | rfl
   ·exact kY rfl
   ·exact hab q h2 h1
   ·exact hab q h1 h2
   ·exact kY rfl
  ·intro i hi hT q hq;rcases hT with rfl | rfl
   ·have hq:b.ownBlock=some q:=hq;exact⟨(hh2.lt hq).2.1,(hh2.lt hq).1,λ e=>hh2.other hb2 Taa (by rw[hq,e])⟩
   ·have hq:a.ownBlock=some q:=hq;exact⟨(Kg.lt hq).2.1,(Kg.lt hq).1,λ e=>Kg.other hb2 Taa (by rw[hq,e])⟩
 have hT:=p.trees (ts:=[t]) (ys:=[y]) (Tr.fP ht);exact⟨h.f.step p,hb2,p.own h.f (i:=0) WC WC h.o0,p.own h.f (i:=1) WC WC h.o1,hh2,Kg,p.own h.f (i:=4) WC WC h.o4,p.own h.f (i:=5) WC WC h.o5,h.aM,Tr.all_append (p.trees h.t3) hT,p.trees h.t4,p.trees h.t5⟩
theorem cT.aoB {w':World} {u' v':Value} {qE:List Ex} {s':dE}(h:cT c w0 gp g2 qc g4 g5 D r w u v ya s hd yi yh yo ti th eE)(hs:gM gp w u v w' u' v')(hp:eJ c w0 gp r w' u' v' qE s') {t:Tr} {y:Ex}(ht:t.at_ w' (λ b=>(b < w0.heap.size\/w.heap.size<=b)/\Kp w' gp [u',v'] b) y):t.at_ w' (λ b=>tD w' gp (PR u' v' r) b/\(b < w0.heap.size\/w.heap.size<=b)/\Kp w' gp [u',v'] b) y:=by have p:=(h.call hs hp).f;refine Tr.at_.keep (λ b hb=>⟨λ _=>rfl,⟨hb.2.1,hb.2.2.1,λ i hi e=>?_⟩,hb⟩) t y ht;exact Zcy
theorem Dg.Ra {R R':Nat->Value} {T:Nat->Prop} {w':World} {q:Nat}(p:Dg w0 gp R R' T w w') {ts:List Tr} {ys:List Ex}(h:Tr.aQ w (λ b=>tD w gp R b/\b≠q) ts ys):Tr.aQ w' (λ b=>tD w' gp R' b/\b≠q) ts ys:=Tr.aQ.keep (λ b hb=>⟨λ o=>bJ (p.keep hb.1) o,p.kp hb.1,hb.2⟩) ts ys h
theorem cT.aside (h:cT c w0 gp g2 qc g4 g5 D r w u v ya s hd yi [] [] ti [] []) {q:Nat}(hg:w.grownBy w1 (some q))(hl:w0.heap.size<=q)(hk:tD w gp (PR u v r) q)(hn:q≠g2/\q≠g4/\q≠g5/\q≠D)(ht:Tr.aQ w (λ b=>tD w gp (PR u v r) b/\b≠q) ti yi):cT c w0 gp g2 qc g4 g5 D r w1 u v ya s hd yi [] [] ti [] []:=by
 have hb:=λ b (h1:b < w.heap.size) (h2:b≠q)=>hg.block b h1 (λ e=>by injection e with e;exact h2 e)
 have hkp:∀b,tD w gp (PR u v r) b->tD w1 gp (PR u v r) b:=λ b k=>⟨Nat.lt_of_lt_of_le k.1 hg.size,k.2⟩
 have hf:=h.f;have ho:∀ {α:Type} {f:α->List Value} {e:TypeId} {size base:Nat} {l:List α} {x:Value},aI f e size w base x l->x.ownBlock≠some q->aI f e size w1 base x l:=λ o hx=>o.grown hg hx
 refine⟨⟨hf.low,Nat.lt_of_lt_of_le hf.lt hg.size,Below.trans hf.base (yC hg hf.base.size hl),λ i hi b hb=>⟨(hf.rows i hi b hb).1,Nat.lt_of_lt_of_le (hf.rows i hi b hb).2.1 hg.size,(hf.rows i hi b hb).2.2⟩,hf.ap,hkp _ hf.k2,hkp _ hf.k4,hkp _ hf.k5,hkp _ hf.kD,hf.new,(hb D hf.kD.1 (Ne.symm hn.2.2.2)).trans hf.dd,(hb g2 hf.k2.1 (Ne.symm hn.1)).trans hf.z2,(hb g4 hf.k4.1 (Ne.symm hn.2.1)).trans hf.z4,(hb g5 hf.k5.1 (Ne.symm hn.2.2.1)).trans hf.z5⟩,(hb gp hf.lt (Ne.symm hk.2.1)).trans h.blk,ho h.o0 (hk.2.2 0 WC),ho h.o1 (hk.2.2 1 WC),ho h.o2 (hk.2.2 2 WC),ho h.o3 (hk.2.2 3 WC),ho h.o4 (hk.2.2 4 WC),ho h.o5 (hk.2.2 5 WC),h.aM,Tr.aQ.keep (λ b k=>⟨λ o=>bJ (hb b k.1.1 k.2) o,hkp b k.1⟩) _ _ ht,?_,?_⟩
 ·unfold Tr.aQ;rfl
 ·unfold Tr.aQ;rfl
end
def GV (g:Bool)(aL:List Tr)(cols:List aZ)(q:Qy)(s:dE):Except Int (List Tr×List Tr×dE):=
 match dB g aL cols q.ft s with
 | .error e=> .error e
 | .ok (hs,s2)=>match eu g aL cols q.ord s2 with
   | .error e=> .error e
   | .ok (os,s3)=> .ok (hs,os,s3)
def wZ (g:Bool)(aL:List Tr)(cols:List aZ)(q:Qy)(s:dE):Except Int (List Tr×List aZ×List Tr×List Tr×dE):=
 match dT g aL cols q.items s with
 | .error e=> .error e
 | .ok (is,hd,s1)=>match GV g aL cols q s1 with
   | .error e=> .error e
   | .ok (hs,os,s3)=> .ok (is,hd,hs,os,s3)
def zF (l:List Tr)(m:List aZ):Except Int (List Tr×List aZ×dE)->Except Int (List Tr×List aZ×dE)
 | .error e=> .error e
 | .ok (ys,hd,s)=> .ok (l++ys,m++hd,s)
theorem VR (x:Except Int (List Tr×List aZ×dE)):zF [] [] x=x:=by exact ZhV
theorem Rb(l:List Tr)(m:List aZ)(y:Tr)(cl:aZ) {x x':Except Int (List Tr×List aZ×dE)}(h:x'=(match x with | .error e=> .error e | .ok (ys,hd,s)=> .ok (y::ys,cl::hd,s))):zF l m x'=zF (l++ [y]) (m++ [cl]) x:=by
 rw[h]
 cases x with
 | error e=>rfl
 | ok p=>obtain⟨ys,hd,s⟩:=p;show Except.ok (l++y::ys,m++cl::hd,s)=Except.ok ((l++ [y])++ys,(m++ [cl])++hd,s);rw[append_assoc,append_assoc];rfl
theorem J9{t:Tr} {x:Ex}(h:t.at_ w S x):x.op=t.op/\x.name=t.name:=by
 cases t with
 | mk op v name width args=>unfold Tr.at_ at h;exact⟨h.1,h.2.2.1⟩
variable{b:ByteArray}
theorem Nk(h:b.toList=[]):b.size=0:=by
 unfold ByteArray.toList ByteArray.toList.loop at h;split at h
 ·exfalso
  have:∀i r,(ByteArray.toList.loop b i r).length≥r.length:=by
   intro i r
   fun_induction ByteArray.toList.loop b i r with
   | case1 i r hi ih=>simp at ih;omega
   | case2=>simp
  have h2:=this 1 [b.get! 0];rw[h] at h2;simp at h2
 ·omega
theorem K7:(⟨#[]⟩:ByteArray).toList=[]:=by unfold ByteArray.toList ByteArray.toList.loop;rfl
theorem aoD(h:b.size=0):b=⟨#[]⟩:=by
 cases b with
 | mk d=>have h:d.size=0:=h;rw[Array.eq_empty_of_size_eq_zero h]
theorem zct.Kat(h:p:=by go_wp2_with fail;exact HE.ae er _ _ (by unfold wZ;rw[<- HK.ae,oO.ae]) nV.ae ⟨rfl,rfl,rfl⟩ HW.ae):p:=h
theorem zgj.Kbp(h:p:=by go_upto_region 31 with fail;generalize w6.alloc (.cells (ay Kx) 46)=WD at*;obtain⟨_,_,_,vg,_,_,b4,b5,_⟩:=HW.ae;open zct in exact ZaM):p:=h
theorem zgm.Kbq(h:p:=by
 have Am:=aa Vu;clear Vu;have tQ:aC WD g16 48 #[ag x.op,ag x.v.k,af x.v.n,.string x.v.s,.string x.name,af x.width,.slice x.A x.n x.c,.string nm]:=Cz.ae;have z0:=tQ.cell 0;have x4:=tQ.cell 4;have x7:=tQ.cell 7;have fx:=tQ.frozen;simp only[Uaa] at z0 x4 x7;clear tQ;go_wp2_with fail
 ·rename_i iO hop;have aoH:nm.size=0:=Nk iO;have xY:=aa (show X=zF (ti++ [t2]) (jR++ [⟨x.name,ty⟩]) (dT c.aK c.aL c.cols (q.items.drop (k+1)) s2) by
   rw[EO.ae]
   have h2:t.op=2:=by rw[<-(J9 xq.ae).1];exact of_decide_eq_true hop
   rw[show ia t nm=x.name by unfold ia;rw[if_pos ⟨aoH,h2⟩,(J9 xq.ae).2]])
  clear EO iO hop aoH;have hg:=aG (aT (Below.refl WD.heap.size WD):WD.grownBy WD (some g16)) 7 (.string x.name);have K1:=aa (tq.ae.aside hg ahS.ae.1 MM.ae ahS.ae.2 HT7.ae);have kQ:∀b,b < WD.heap.size->b≠g16->(WD.setCell ⟨g16,7,none⟩ (.string x.name)).heap[b]?=WD.heap[b]?:=λ b h1 h2=>hg.block b h1 (λ e=>by injection e with e;exact h2 e)
  have xX:=aa (show Tr.aQ (WD.setCell ⟨g16,7,none⟩ (.string x.name)) (tD (WD.setCell ⟨g16,7,none⟩ (.string x.name)) gp (PR u' v' { r with h:=rh,i:=ri })) [t2] [Kx] from Tr.aQ.keep (λ b KK=>⟨λ o=>bJ (kQ b KK.1.1 KK.2) o,Nat.lt_of_lt_of_le KK.1.1 hg.size,KK.1.2⟩) _ _ acC.ae);have V0:=aa (show aC (WD.setCell ⟨g16,7,none⟩ (.string x.name)) gY 46 (bI Kx).toArray from(kQ gY Tk.ae.1 (Ne.symm Xc.ae)).trans NR.ae);have U3:=aa (show tD (WD.setCell ⟨g16,7,none⟩ (.string x.name)) gp (PR u' v' { r with h:=rh,i:=ri }) g16 from⟨Nat.lt_of_lt_of_le MM.ae.1 hg.size,MM.ae.2⟩);have VU:=aa (show tD (WD.setCell ⟨g16,7,none⟩ (.string x.name)) gp (PR u' v' { r with h:=rh,i:=ri }) gY from⟨Nat.lt_of_lt_of_le Tk.ae.1 hg.size,Tk.ae.2⟩);have qp:=aa (show(WD.setCell ⟨g16,7,none⟩ (.string x.name)).cell? ⟨g16,7,none⟩=some (.string x.name) by
   have tQ:aC WD g16 48 #[ag x.op,ag x.v.k,af x.v.n,.string x.v.s,.string x.name,af x.width,.slice x.A x.n x.c,.string nm]:=Cz.ae
   rw[(tQ.aW 7 (.string x.name)).cell]
   rfl)
  clear tq GU NR HT7 acC fx z0 x4 x7 Cz MM Tk kQ hg;generalize World.setCell WD _ _=WB at*;have HOi:=aa K1.ae.o3;have HOh:=aa K1.ae.o2;have HLi:=aa (show yi.length<=1000000 by have:=HH.ae;have:=qM.ae;have:=Ee.ae;have:=Am.ae;omega);have HLh:=aa (show(hd++jR).length<=1000000 by have:=Q3.ae;have:=HH.ae;have:=qM.ae;have:=Ee.ae;rw[length_append];omega);have key:=λ(T:Array Value) (hT:T.size=252) e0 e1 e2 e3 (Q2:Exit->Act->World->Prop) hf=>DI (T:=T) (d:=d) (Q:=Q2) (gp:=gp) (B:=w0.heap.size) (gY:=gY) (g16:=g16) (W:=WB) (cs:=c.cells { r with h:=rh,i:=ri } u' v') (ri:=ri) (rh:=rh) (yi:=yi) (y:=Kx) (hd:=hd++jR) (nm:=x.name) (ty:=ty) hT e0 e1 e2 e3 rfl rfl K1.ae.f.base.size K1.ae.blk HOi.ae HOh.ae HLi.ae HLh.ae V0.ae VU.ae.2.1 (VU.ae.2.2 3 WC) (VU.ae.2.2 2 WC) qp.ae U3.ae.1 U3.ae.2.1 (U3.ae.2.2 3 WC) (U3.ae.2.2 2 WC) hf
  simp only[DG,bL,fA,Tryz.f28,Option.getD_some,sB,Nat.reduceEqDiff,if_true,if_false] at key;refine key _ ?_ ?_ ?_ ?_ ?_ _ ?_
  ·rfl
  ·rfl
  ·rfl
  ·rfl
  ·rfl
  clear key;intro ach aci z167 z168 acj ack z171 acm z173 acn z175 aco acp acr acs acu acv z182 z183 acw acx acy acz w8 a b9 s7 ER zE;simp only[Uac];have J5:=aa (K1.ae.QZ zE (mJ xX.ae));clear zE K1 V0 qp xX HOi HOh;generalize World.setCell w8 _ _=MH at*;have hk7:k < 1000000:=by have:=HH.ae;have:=Ee.ae;omega
  go_wp2_with fail;go_roundw;case rel=>exact⟨k+1,b9,a,u',v',C8,yi++ [Kx],s2,ti++ [t2],jR++ [⟨x.name,ty⟩],hlt,by go_num,by
   have h:=J5.ae
   rw[append_assoc] at h
   exact h,xY.ae,by have:=AY.ae;have:=U6.ae;have:=DD.ae;omega,by rw[length_append,qM.ae.1];rfl,by rw[length_append,qM.ae.2];rfl⟩
  case measure=>exact Za6
 ·rename_i iO hop;have xY:=aa (show X=zF (ti++ [t2]) (jR++ [⟨nm,ty⟩]) (dT c.aK c.aL c.cols (q.items.drop (k+1)) s2) by
   rw[EO.ae]
   have h2:¬t.op=2:=by rw[<-(J9 xq.ae).1];exact of_decide_eq_false hop
   rw[show ia t nm=nm by unfold ia;rw[if_neg (λ h=>h2 h.2)]])
  clear EO iO hop;exact Zar
 ·rename_i iO;have xY:=aa (show X=zF (ti++ [t2]) (jR++ [⟨nm,ty⟩]) (dT c.aK c.aL c.cols (q.items.drop (k+1)) s2) by
   rw[EO.ae]
   rw[show ia t nm=nm by unfold ia;rw[if_neg (λ h=>iO (by rw[aoD h.1];exact K7))]])
  clear EO iO;exact Zar):p:=h
theorem ze0.KaX(h:p:=by
 go_wp2_with fail;clear z0 z1 x2 x3 x4 x5 x6;refine(Dd c w0 gp { r with h:=rh,i:=ri } t x s1 u1 v1 Jo W2 IH.ae kx.ae xq.ae uh.ae.ps TaT).mono ?_;intro e w6 hp;have vt:=aa (lL c.aK c.aL c.cols t s1)
 cases hr:pB c.aK c.aL c.cols t s1 with
 | error er=>
   open zgj in exact ZdE
 | ok p=>
   obtain⟨t2,ty,s2⟩:=p;have ahT:=vo.ae;rw[hr] at hp vt ahT;obtain⟨Kx,u',v',C8,rfl,uU,pV,hst⟩:=hp;have sy:=uh.ae.call hst pV;have VQ:=uh.ae.tree hst pV uU;have oF:=uh.ae.stp hst pV;have aoG:t2.at_ w6 (λ b=>tD w6 gp (PR u' v' { r with h:=rh,i:=ri }) b/\(b < w0.heap.size\/W2.heap.size<=b)/\Kp w6 gp [u',v'] b) Kx:=cT.aoB uh.ae hst pV uU;have bg:=ah w6 (.cells (ay Kx) 46);have HX:=aC.new w6 46 (ay Kx);have tq:=aa (sy.later bg);have hpl:=Dg.later (w0:=w0) (gp:=gp) (R:=PR u' v' { r with h:=rh,i:=ri }) bg;have GU:=aa (hpl.trees (Tr.fP VQ));have HT7:=aa (hpl.Ra (oF.Ra aoE.ae));have acC:=aa (show Tr.aQ (w6.alloc (.cells (ay Kx) 46)) (λ b=>tD (w6.alloc (.cells (ay Kx) 46)) gp (PR u' v' { r with h:=rh,i:=ri }) b/\b≠g16) [t2] [Kx] from hpl.Ra (Tr.fP (Tr.at_.keep (λ b KK=>⟨λ _=>rfl,KK.1,λ e=>by
    rcases KK.2.1 with h | h
    ·have:=ahS.ae.1;omega
    ·have:=VT.ae.1;omega⟩) t2 Kx (aoG))))
   have MM:=aa (hpl.kp (oF.kp VT.ae));have Cz:=aa ((hpl.keep (oF.kp VT.ae)).trans ((oF.keep VT.ae).trans AQ.ae));have Tk:=aa (show tD (w6.alloc (.cells (ay Kx) 46)) gp (PR u' v' { r with h:=rh,i:=ri }) w6.heap.size from⟨HX.lt,by have:=sy.f.lt;omega,λ i hi e=>by have:=(sy.f.rows i hi _ e).2.1;omega⟩);have Xc:=aa (show g16≠w6.heap.size from λ e=>by have:=(oF.kp VT.ae).1;omega);have DD:=aa (vt.ae.len _ _ _ rfl);have EO:=aa (show X=zF (ti++ [t2]) (jR++ [⟨ia t nm,ty⟩]) (dT c.aK c.aL c.cols (q.items.drop (k+1)) s2) by
    rw[uV.ae,ahT]
    exact Rb ti jR t2 ⟨ia t nm,ty⟩ rfl)
   have Vu:=sy.t3.length;clear hr ahT hst pV uU aoG sy VQ bg vt vo uV uh oF hpl VT AQ aoE;go_upto_region 31 with fail;open zgm in exact ZdF):p:=h
theorem zdM.KaH(h:p:=by
 have HP:=aa DS;have HM:=aa Zw;have Vs:=aa HQS;have HK:=aa Kt;have Ee:=aa Zx;have J0:=aa hP;have b2:=hP.f.z2;unfold fW at b2;have z6:=b2.cell 0;simp only[Uaa] at z6;rw[hn,<- Zx] at z6;clear hE hF ih q1 q2 q3 q4 q5 AP Aj fq hz Ny DS Zw HQS Kt hP b2 hn Zx;simp only[bL,fA,Tryz.f28,Option.getD_some];go_wp2_with fail;clear z6;go_loopw [137] (λ i wr=>∃(k:Nat) (rh ri u1 v1:Value) (Jo yi:List Ex) (s1:dE) (ti:List Tr) (jR:List aZ),k<=zs.length/\i=af k/\cT c w0 gp g2 (fW q L) g4 g5 D { r with h:=rh,i:=ri } wr u1 v1 Jo s1 (hd++jR) yi [] [] ti [] []/\X=zF ti jR (dT c.aK c.aL c.cols (q.items.drop k) s1)/\s1.aL.length+s1.aM.length+2*Tr.aY ((q.items.map (·.1)).drop k)+(2*Tr.aY q.ft+2*Tr.aY (q.ord.map (·.1)))<=1000000/\ti.length=k/\jR.length=k) (λ i _=>zs.length - (intOf i).toNat);case atStart=>exact⟨0,r.h,r.i,u,v,ya,[],s,[],[],Nat.zero_le _,rfl,by rw[append_nil];exact J0.ae,by rw[drop_zero,VR];exact HK.ae,by rw[drop_zero];exact Vs.ae,rfl,rfl⟩
 case round=>
  rename_i K hK;clear J0;obtain⟨k,rh,ri,u1,v1,Jo,yi,s1,ti,jR,hk,rfl,hP,Tj,HQS,SY,hhl⟩:=hrel;have uV:=aa Tj;have AY:=aa HQS;have J0:=aa hP;have qM:=aa (And.intro SY hhl);clear Tj HQS hP SY hhl;by_cases hlt:k < zs.length
  ·have fK:k < q.items.length:=by rw[<- Ee.ae];exact hlt
   obtain⟨b,off,hA,Cw,hcell⟩:∃b off,L.i.A=some ⟨b,off,none⟩/\b < w0.heap.size/\cy w0 b (off+k*8) zs[k].1/\w0.cell? ⟨b,off+k*8+7,none⟩=some zs[k].2:=by
    rcases jH.ae with h |⟨b,off,h1,h2,h3⟩
    ·exact ZfF
    ·exact ZeM
   have hb8:zs[k].2=.string (q.items[k]'fK).2:=by have h1:=congrArg (λ l=>l[k]?) B9.ae;simp only[getElem?_map,getElem?_eq_getElem hlt,getElem?_eq_getElem fK,Option.map_some] at h1;injection h1
   have se:(q.items[k]'fK).1.at_ w0 (Old w0) zs[k].1:=by
    have hl2:k <((q.items.map λ x=>(x.1,Value.string x.2)).map (·.1)).length:=by simpa using fK
    obtain⟨Kx,h1,h2⟩:=pU hl2 HP.ae;exact ZfS
   have gj:(q.items[k]'fK).1.ok:=dN.1 Q1.ae _ (mem_map_of_mem (getElem_mem fK));have S5:Tr.aY ((q.items.map (·.1)).drop k)=(q.items[k]'fK).1.nodes+Tr.aY ((q.items.map (·.1)).drop (k+1)):=by have h1:=ve (ts:=q.items.map (·.1)) (k:=k) (by simpa using fK);simpa using h1
   have hdr:dT c.aK c.aL c.cols (q.items.drop k) s1=(match pB c.aK c.aL c.cols (q.items[k]'fK).1 s1 with
     | .error e=> .error e
     | .ok (Kx,k2,s')=>match dT c.aK c.aL c.cols (q.items.drop (k+1)) s' with
       | .error e=> .error e
       | .ok (ys,hd,Lv)=> .ok (Kx::ys,⟨ia (q.items[k]'fK).1 (q.items[k]'fK).2,k2⟩::hd,Lv)):=by
    rw[drop_eq_getElem_cons fK];obtain⟨t,bb⟩:=q.items[k];rfl
   rw[hb8] at hcell;generalize zs[k].1=x at*;generalize (q.items[k]'fK).2=nm at*;generalize (q.items[k]'fK).1=t at*;obtain⟨hex,h7⟩:=hcell;have iC:=hex.keep (λ o=>J0.ae.f.base.cell (p:=⟨b,o,none⟩) Cw);have h72:=(J0.ae.f.base.cell (p:=⟨b,off+k*8+7,none⟩) Cw).trans h7;unfold cy at iC;have xq:=aa se;have kx:=aa gj;have U6:=aa S5;have vo:=aa hdr;have HAA:=aa hA;rw[hA];clear hex h7 se gj S5 hdr hA Cw hb8 fK;go_upto_region 30 with fail;clear iC h72;have hb:=aC.new wr 48 #[ag x.op,ag x.v.k,af x.v.n,.string x.v.s,.string x.name,af x.width,.slice x.A x.n x.c,.string nm];have acB:=ah wr (.cells #[ag x.op,ag x.v.k,af x.v.n,.string x.v.s,.string x.name,af x.width,.slice x.A x.n x.c,.string nm] 48);generalize wr.alloc (.cells #[ag x.op,ag x.v.k,af x.v.n,.string x.v.s,.string x.name,af x.width,.slice x.A x.n x.c,.string nm] 48)=W2 at*;have uh:=aa (J0.ae.later acB);have VT:=aa (show tD W2 gp (PR u1 v1 { r with h:=rh,i:=ri }) wr.heap.size from⟨hb.lt,by have:=J0.ae.f.lt;omega,λ i hi e=>by have:=(J0.ae.f.rows i hi _ e).2.1;omega⟩);have ahS:=aa (show w0.heap.size<=wr.heap.size/\wr.heap.size≠g2/\wr.heap.size≠g4/\wr.heap.size≠g5/\wr.heap.size≠D from⟨J0.ae.f.base.size,by have:=J0.ae.f.k2.1;omega,by have:=J0.ae.f.k4.1;omega,by have:=J0.ae.f.k5.1;omega,by have:=J0.ae.f.kD.1;omega⟩);have aoE:=aa (show Tr.aQ W2 (λ b=>tD W2 gp (PR u1 v1 { r with h:=rh,i:=ri }) b/\b≠wr.heap.size) ti yi from Tr.aQ.keep (λ b KK=>⟨λ o=>acB.cell (p:=⟨b,o,none⟩) KK.1,⟨Nat.lt_of_lt_of_le KK.1 acB.size,KK.2⟩,by have:=KK.1;omega⟩) _ _ J0.ae.t3)
   generalize wr.heap.size=g16 at*;clear J0 acB;open ze0 in exact Zcn
  ·have fL:k=zs.length:=by omega
   have J6:=aa (show X=.ok (ti,jR,s1) by
    rw[uV.ae,fL,Ee.ae,drop_length]
    show Except.ok (ti++ [],jR++ [],s1)=_
    rw[append_nil,append_nil])
   have auA:(q.items.map (·.1)).drop k=[]:=drop_eq_nil_of_le (by have:=Ee.ae;rw[length_map];omega);subst fL
   have key:∀T:Array Value,T.size=252->T.getD 2 undef=aw g2->T.getD 4 undef=aw g4->T.getD 5 undef=aw g5->T.getD 6 undef=aw gp->(fA bL 8).wp Tryz.prog Q { tmps:=T,defers:=d } wr:=λ T hT h2 h4 h5 h6=>
    QX c w0 gp g2 g4 g5 D q L { r with h:=rh,i:=ri } u1 v1 Jo s1 (hd++jR) yi ti T hT h2 h4 h5 h6 d wr Q IH.ae Q4.ae Q5.ae oQ.ae ZV.ae Ay.ae HM.ae (by have:=AY.ae;rw[auA] at this;omega) J0.ae
     (λ er a W he hne ha hw=>HE.ae er a W (by
       have h:GV c.aK c.aL c.cols q s1=.error er:=by
        unfold GV
        rcases he with he |⟨th,s',h1,h2⟩
        ·rw[he]
        ·rw[h1]
         dsimp only
         rw[h2]
       unfold wZ
       rw[<- HK.ae,J6.ae]
       dsimp only
       rw[h]) hne ha hw)
     (λ a W r' u' v' qE s2 s' yh yo th eE h1 h2 ha hp=>HF.ae a W r' u' v' qE s' jR yi yh yo ti th eE (by
       have h:GV c.aK c.aL c.cols q s1=.ok (th,eE,s'):=by
        unfold GV
        rw[h1]
        dsimp only
        rw[h2]
       unfold wZ
       rw[<- HK.ae,J6.ae]
       dsimp only
       rw[h]) ha hp)
   exact ZcB):p:=h
theorem zfM.Kbd(h:p:=by
 obtain⟨hn,zs,hz,Ny,DS⟩:=Xq;rw[length_map] at hn;have Zx:zs.length=q.items.length:=by have:=congrArg List.length Ny;simpa using this
 obtain⟨X,Kt⟩:∃X,X=dT c.aK c.aL c.cols q.items s:=⟨_,rfl⟩;have HE:=aa hE;open zdM in exact Zbm):p:=h
theorem VS (c:PC)(w0:World)(gp g2 g4 g5 D:Nat)(q:Qy)(L:QL)(r:Rest)(u v:Value)(ya:List Ex)(s:dE)(hd:List aZ)(T:Array Value)(hT:T.size=252)
  (h2:T.getD 2 undef=aw g2) (h4:T.getD 4 undef=aw g4) (h5:T.getD 5 undef=aw g5) (h6:T.getD 6 undef=aw gp) (d:List Deferred) (w:World) (Q:Exit->Act->World->Prop)
  (ih:c.Ok w0) (q1:Tr.cP (q.items.map (·.1))) (Xq:eQ w0 (q.items.map λ x=>(x.1,.string x.2)) L.i.A L.i.n) (q2:q.items.length<=100000) (q3:hd.length<=100000)
  (q4:Tr.cP q.ft) (q5:fU w0 q.ft L.h.A L.h.n) (AP:q.ft.length<=1000000) (Aj:Tr.cP (q.ord.map (·.1))) (fq:eQ w0 (q.ord.map λ x=>(x.1,.bool x.2)) L.o.A L.o.n) (Zw:q.ord.length<=1000000) (HQS:s.aL.length+s.aM.length+2*Tr.aY (q.items.map (·.1))+(2*Tr.aY q.ft+2*Tr.aY (q.ord.map (·.1)))<=1000000)
  (hP:cT c w0 gp g2 (fW q L) g4 g5 D r w u v ya s hd [] [] [] [] [] [])
  (hE:∀er a W,wZ c.aK c.aL c.cols q s=.error er->er≠0->qG a d g4 g5->wY w0 g4 g5 D W->Q .ret a (jd W g4 g5 er))
  (hF:∀a W r' u' v' qE s' xl yi yh yo ti th eE,wZ c.aK c.aL c.cols q s=.ok (ti,xl,th,eE,s')->qG a d g4 g5->cT c w0 gp g2 (fW q L) g4 g5 D r' W u' v' qE s' (hd++xl) yi yh yo ti th eE->Q .ret a (jr W g4 g5 gp)):
  (fA bL 7).wp Tryz.prog Q { tmps:=T,defers:=d } w:=by
 open zfM in exact ZcZ
variable{α:Type}{f:α->List Value}{e:TypeId}{base:Nat}
theorem oL{size:Nat} :aI f e size w base (az) []:=⟨by simp,.inl ⟨rfl,rfl⟩⟩
section
variable {c:PC} {w0 w:World} {gp g2 g4 g5 D:Nat} {qc:Array Value} {r:Rest} {u v:Value} {ya:List Ex} {s:dE} {hd:List aZ} {yi yh yo:List Ex} {ti th eE:List Tr}
theorem cT.aoL (h:cT c w0 gp g2 qc g4 g5 D r w u v ya s hd yi yh yo ti th eE):cT c w0 gp g2 qc g4 g5 D { r with h:=az } (w.setCell ⟨gp,12,none⟩ (az)) u v ya s [] yi yh yo ti th eE:=by
 have hf:=λ k (hk:k≠gp)=>Below.heap_setCell w ⟨gp,12,none⟩ (az) k hk
 have p:Dg w0 gp (PR u v r) (PR u v { r with h:=az }) (λ i=>i=2) w (w.setCell ⟨gp,12,none⟩ (az)):=by
  refine⟨rfl,rfl,rfl,by rw[World.size_setCell];exact Nat.le_refl _,λ k h1 h2 h3=>hf k h2,?_,?_,Zgb,?_⟩
  ·intro i hi hT
   match i with
   | 0 | 1 | 3 | 4 | 5=>rfl
   | 2=>exact absurd rfl hT
   | n+6=>omega
  ·intro i hi hT;subst hT;exact .inr λ q hq=>by cases hq
  ·intro i hi hT q hq;subst hT;cases hq
 exact⟨h.f.step p,h.blk.aW 12 _,p.own h.f (i:=0) WC WC h.o0,p.own h.f (i:=1) WC WC h.o1,oL,p.own h.f (i:=3) WC WC h.o3,p.own h.f (i:=4) WC WC h.o4,p.own h.f (i:=5) WC WC h.o5,h.aM,p.trees h.t3,p.trees h.t4,p.trees h.t5⟩
end
def zG (g:Bool)(aL:List Tr)(cols:List aZ)(q:Qy)(s:dE):Except Int (List Tr×List aZ×List Tr×List Tr×dE):=if q.items=[]/\g=true then .error 42 else wZ g aL cols q s
theorem zcu.Kat(h:p:=by go_wp2_with fail;exact HE.ae 42 _ _ HR.ae Taa ⟨rfl,rfl,rfl⟩ HW.ae):p:=h
theorem zfN.Kbd(h:p:=by
 have key:∀(r':Rest) (NF:List aZ) (w':World),(q.items=[]->c.aK=false)->NF=(if q.items=[] then hd else [])->cT c w0 gp g2 (fW q L) g4 g5 D r' w' u v ya s NF [] [] [] [] [] []->∀T:Array Value,T.size=252->T.getD 2 undef=aw g2->T.getD 4 undef=aw g4->T.getD 5 undef=aw g5->T.getD 6 undef=aw gp->(fA bL 7).wp Tryz.prog Q { tmps:=T,defers:=d } w':=λ r' NF w' hg e hp T hT h2 h4 h5 h6=>
  have hR:zG c.aK c.aL c.cols q s=wZ c.aK c.aL c.cols q s:=if_neg λ h=>by have h1:=h.2;rw[hg h.1] at h1;cases h1
  VS c w0 gp g2 g4 g5 D q L r' u v ya s NF T hT h2 h4 h5 h6 d w' Q bh hqi Xq ES (by
   rw[e]
   split
   ·exact J8
   ·exact Nat.zero_le _) J7 U7 DF Th uJ Ti hlen hp (λ er a W he=>hE er a W (hR.trans he)) (λ a W r' u' v' qE s' xl yi yh yo ti th eE he ha hp=>hO a W r' u' v' qE s' xl yi yh yo ti th eE (hR.trans he) ha (e▸hp))
 simp only[bL,fA,Tryz.f28,Option.getD_some] at key;have b2:=hP.f.z2;have bg:=hP.blk;unfold fW at b2;unfold PC.cells at bg;have c0:=b2.cell 0;have c11:=bg.cell 11;have c12:=bg.cell 12;have f12:=bg.frozen 12;simp only[Uaa] at c0 c11 c12;have hn:L.i.n=q.items.length:=by rw[Xq.n,length_map]
 have aoM:=hP.f.J3;have HP:=aa hP;have HE:=aa hE;have HW:=aa aoM;have KEY:=aa key;rw[hn] at c0;clear hE hO bh hqi Xq J8 J7 U7 DF Th uJ Ti hlen hP b2 bg hn aoM key;simp only[bL,fA,Tryz.f28,Option.getD_some];refine wp_seq_k λ K hK=>?_
 have HK:=aa (show∀(r':Rest) (NF:List aZ) (w':World),(q.items=[]->c.aK=false)->NF=(if q.items=[] then hd else [])->cT c w0 gp g2 (fW q L) g4 g5 D r' w' u v ya s NF [] [] [] [] [] []->∀T:Array Value,T.size=252->T.getD 2 undef=aw g2->T.getD 4 undef=aw g4->T.getD 5 undef=aw g5->T.getD 6 undef=aw gp->K { tmps:=T,defers:=d } w' from λ r' NF w' h1 h2 h3 T a1 a2 a3 a4 a5=>hK _ _ (KEY.ae r' NF w' h1 h2 h3 T a1 a2 a3 a4 a5));clear hK KEY
 cases hi:q.items with
 | nil=>
   rw[hi] at c0
   cases hg:c.aK with
   | true=>rw[hg] at c11;have HR:=aa (show zG c.aK c.aL c.cols q s=.error 42 from if_pos ⟨hi,hg⟩);clear hi hg ES;obtain⟨_,_,_,vg,_,_,b4,b5,_⟩:=HW.ae;open zcu in exact ZaM
   | false=>rw[hg] at c11;have HI:=aa hi;have HG:=aa hg;clear hi hg ES;go_wp2_with fail;refine HK.ae r hd w (λ _=>HG.ae) (by rw[if_pos HI.ae]) HP.ae _ ?_ ?_ ?_ ?_ ?_ <;> rfl
 | cons i0 il=>
   rw[hi,length_cons] at c0;have HI:=aa hi;rw[hi,length_cons] at ES;clear hi;have hlt:(0:Int)<((il.length+1:Nat):Int):=by omega
   go_wp2_with fail;refine HK.ae _ [] _ (λ h=>by rw[HI.ae] at h;cases h) (by rw[HI.ae];rfl) HP.ae.aoL _ ?_ ?_ ?_ ?_ ?_ <;> rfl):p:=h
theorem K8 (c:PC)(w0:World)(gp g2 g4 g5 D:Nat)(q:Qy)(L:QL)(r:Rest)(u v:Value)(ya:List Ex)(s:dE)(hd:List aZ)(T:Array Value)(hT:T.size=252)
  (h2:T.getD 2 undef=aw g2) (h4:T.getD 4 undef=aw g4) (h5:T.getD 5 undef=aw g5) (h6:T.getD 6 undef=aw gp) (d:List Deferred) (w:World) (Q:Exit->Act->World->Prop)
  (bh:c.Ok w0) (hqi:Tr.cP (q.items.map (·.1))) (Xq:eQ w0 (q.items.map λ x=>(x.1,.string x.2)) L.i.A L.i.n) (ES:q.items.length<=100000) (J8:hd.length<=100000)
  (J7:Tr.cP q.ft) (U7:fU w0 q.ft L.h.A L.h.n) (DF:q.ft.length<=1000000) (Th:Tr.cP (q.ord.map (·.1))) (uJ:eQ w0 (q.ord.map λ x=>(x.1,.bool x.2)) L.o.A L.o.n) (Ti:q.ord.length<=1000000) (hlen:s.aL.length+s.aM.length+2*Tr.aY (q.items.map (·.1))+(2*Tr.aY q.ft+2*Tr.aY (q.ord.map (·.1)))<=1000000)
  (hP:cT c w0 gp g2 (fW q L) g4 g5 D r w u v ya s hd [] [] [] [] [] [])
  (hE:∀er a W,zG c.aK c.aL c.cols q s=.error er->er≠0->qG a d g4 g5->wY w0 g4 g5 D W->Q .ret a (jd W g4 g5 er))
  (hO:∀a W r' u' v' qE s' xl yi yh yo ti th eE,zG c.aK c.aL c.cols q s=.ok (ti,xl,th,eE,s')->qG a d g4 g5->cT c w0 gp g2 (fW q L) g4 g5 D r' W u' v' qE s' ((if q.items=[] then hd else [])++xl) yi yh yo ti th eE->Q .ret a (jr W g4 g5 gp)):
  (fA bL 6).wp Tryz.prog Q { tmps:=T,defers:=d } w:=by
 open zfN in exact ZcZ
def ahU (gp B:Nat)(w1:World)(vv:Value)(l:List aZ)(nm:ByteArray)(ty:Int)(k:Nat):Nat->World->Value->Prop
 | 0,_,v=>v=aw gp
 | 1,_,v=>v=aw gp
 | 2,_,v=>v=aw gp
 | 3,_,v=>v=bj gp 10
 | 4,_,v=>v=vv
 | 5,_,v=>v=af (k:Int)
 | 6,_,v=>v=.agg #[ag 2,ag 0,af 0,au,.string nm,af 0,az]
 | 7,_,v=>v=.string nm
 | 8,_,v=>v=ag ty
 | 9,_,v=>v=.agg #[.string nm,ag ty]
 | 10,w,v=>∃q:Nat,v=aF q 1 1/\aC w q 113 (aU ⟨nm,ty⟩).toArray/\vv.ownBlock≠some q
 | 11,w,v=>∃q:Value,v=q/\aI aU 113 2 w B q (l++ [⟨nm,ty⟩])/\Mv w1 vv q
 | 12,_,v=>v=aw gp
 | 13,_,v=>v=bj gp 10
 | _,_,_=>False
theorem Rc (gp B:Nat)(w1:World)(vv:Value)(l:List aZ)(nm:ByteArray)(ty:Int)(k:Nat):∀i w w' x,ahU gp B w1 vv l nm ty k i w x->AR aU 113 2 B vv l ⟨nm,ty⟩ w w'->ahU gp B w1 vv l nm ty k i w' x:=by
 intro i w w' x h hl
 match i with
 | 0 | 1 | 2 | 3 | 4 | 5 | 6 | 7 | 8 | 9 | 12 | 13=>exact h
 | 10=>exact Zff
 | 11=>exact Zgy
 | n+14=>exact h
def Tm (l:List aZ):Except Int (List aZ)->Except Int (List aZ)
 | .error e=> .error e
 | .ok m=> .ok (l++m)
theorem VV (x:Except Int (List aZ)):Tm [] x=x:=by exact ZhV
theorem Re(l:List aZ)(y:aZ) {x x':Except Int (List aZ)}(h:x'=(match x with | .error e=> .error e | .ok m=> .ok (y::m))):Tm l x'=Tm (l++ [y]) x:=by
 rw[h]
 cases x with
 | error e=>rfl
 | ok p=>show Except.ok (l++y::p)=Except.ok ((l++ [y])++p);rw[append_assoc];rfl
def xa (g:Bool)(aL:List Tr)(cols:List aZ)(q:Qy):Except Int (List Tr×List aZ×List Tr×List Tr×dE):=
 match kK cols q.aL 0 with
 | .error e=> .error e
 | .ok gc=>zG g aL cols q ⟨[],gc⟩
theorem zcz.Kat(h:p:=by exact ZhN):p:=h
theorem zbR.Kal(h:p:=by
 clear k1;go_wp2_with fail;clear z0 z1 x2 x3 x4 x5 x6;have xo:=Tr.po (cols:=c.cols) (CA:=c.cA) (cc:=c.cc) (by have:=IH.ae.cl;omega) t y W2 kx.ae (xq.ae.later uh.ae.f.base) (IH.ae.cols.later uh.ae.f.base);have JG:=vo.ae;generalize hR:t.type c.cols=R at*;obtain⟨ty,er⟩:=R;dsimp only at JG xo;refine(xo W2 (ai.refl _)).mono ?_;rintro e w6 ⟨rfl,hb6⟩;have tq:=aa (uh.ae.later hb6);clear xo uh hb6 hR vo;by_cases HW:er=0
 ·subst HW;rw[if_neg Taa] at JG;have ahW:=aa JG;clear JG;obtain⟨nm,iO⟩:∃nm,nm=iV k:=⟨_,rfl⟩;have Sv:=aa iO;clear iO;have HK9:=aa (show k < 1000000 by have:=HH.ae;have:=oQ.ae;omega);have HGL:=aa (show s1.aL.length<=1000000 by have:=HK9.ae;have:=qM.ae;omega);obtain⟨VA,vc,hv,_⟩:=tq.ae.o1.reads;subst hv;go_wp2_with fail;obtain⟨WB,hWB⟩:∃WB,WB=w6:=⟨_,rfl⟩;have qH:=tq;clear tq;rw[<- hWB] at qH ⊢;refine fu _ _ (take_append_drop 14 _).symm (AR aU 113 2 w0.heap.size (Value.slice VA s1.aL.length vc) s1.aL ⟨nm,ty⟩) AR.refl (λ _ _ _=>AR.trans) AR.drew (ahU gp w0.heap.size WB (Value.slice VA s1.aL.length vc) s1.aL nm ty k) (λ i w w' y h hr=>Rc _ _ _ _ _ _ _ _ _ _ _ _ h hr) Vx Vx Vx ?_ ?_
  ·simp only[take_succ_cons,take_zero];refine⟨Zcs,Zcs,Zcs,ZfO,?_,?_,?_,?_,?_,?_,?_,?_,Zcs,ZfO,trivial⟩
   ·intro ρ W4 hc hL hr;have h0:_=_:=hr.1;have kQ:=dC qH.ae.blk qH.ae.o1 Taa hL.grown;exact ZdU
   ·intro ρ W4 hc hL hr;have h0:_=_:=hr.1;exact aq (v:=af (k:Int)) (w':=W4) Tai ⟨AR.refl _,rfl⟩
   ·intro ρ W4 hc hL hr;have h0:_=_:=hr.1;have e1:=hc.func 60;refine bD (f:=60) (args:= #[af (k:Int)]) (w':=W4) TaA ?_;refine(pz k WC (by have:=HK9.ae;omega) W4 (IH.ae.env.later (qH.ae.ps.aea hL.grown))).mono ?_;rintro e4 w4 ⟨rfl,b4⟩;refine⟨_,rfl,AR.later b4,?_⟩;show mK (Lp k)=_;unfold mK Lp;rw[Sv.ae]
   ·intro ρ W4 hc hL hr;have h0:_=_:=hr.1;have Hv:Sem.run Tryz.prog (Instr.field 46 (.agg #[ag 2,ag 0,af 0,au,.string nm,af 0,az]) 2) W4=.ok (.string nm) W4:=by first | kernel_rfl | rfl
    exact aq (v:=.string nm) (w':=W4) (by simp[go_sem,h0,Hv];done) ⟨AR.refl _,rfl⟩
   ·intro ρ W4 hc hL hr;have h0:_=_:=hr.1;exact aq (v:=ag ty) (w':=W4) Tai ⟨AR.refl _,rfl⟩
   ·intro ρ W4 hc hL hr;have h0:_=_:=hr.1;have h1:_=_:=hr.2.1;exact aq (v:=.agg #[.string nm,ag ty]) (w':=W4) TaN ⟨AR.refl _,rfl⟩
   ·intro ρ W4 hc hL hr;have h0:_=_:=hr.1;refine aq (v:=aF W4.heap.size 1 1) (w':=W4.alloc (.cells #[.string nm,ag ty] 113)) Taq ⟨AR.later (ah W4 _),⟨_,rfl,aC.new W4 _ _,λ e=>?_⟩⟩;have:=((hL.old qH.ae.o1).lt e).1;omega
   ·intro ρ W4 hc hL hr;have h0:_=_:=hr.1;obtain⟨Kx,h1,uS,Jl⟩:∃q:Nat,ρ (.tmp 118)=aF q 1 1/\aC W4 q 113 (aU ⟨nm,ty⟩).toArray/\(Value.slice VA s1.aL.length vc).ownBlock≠some q:=hr.2.1;obtain⟨v',w',hrun,ho,yS,Eu⟩:=eO (P:=Tryz.prog) (w:=W4) 28 28 _ 24 Tryz.underlying28 rT rfl WC (λ _=>rfl) Ta1 (hL.old qH.ae.o1) Kx uS (by have:=HGL.ae;show(s1.aL.length+1)*24<=_;omega) (by have:=HGL.ae;show s1.aL.length+1<=_;omega) (Nat.le_trans qH.ae.f.base.size hL.grown.size);exact Zcb
  intro W3 hL;simp only[Uab];rintro a0 - a1 - a2 - a3 - a4 - a5 - a6 - a7 - a8 - a9 - FN - C1 ⟨aBj,rfl,K9,aeK⟩ a12 - _ rfl;simp only[bF,Act.put,Uac];obtain⟨A4,Qo,hv4,_⟩:=K9.reads;rw[length_append,length_singleton] at hv4;subst hv4;have O4:=aa K9;have HM4:=aa aeK;have C2:=aa hL.grown;have kQ:=dC qH.ae.blk qH.ae.o1 Taa hL.grown;have f10:=kQ.frozen 10;unfold PC.cells at kQ;have c10:=kQ.cell 10;simp only[Uaa] at c10;clear K9 aeK kQ hL;have J5:=aa (qH.ae.call (gM.B6 (gp:=gp) C2.ae HM4.ae (Value.slice A4 (s1.aL.length+1) Qo) 10) (qH.ae.ps.Qk O4.ae C2.ae));clear qH O4 HM4 C2;have hk7:k < 1000000:=HK9.ae;go_wp2_with fail;clear f10 c10;generalize World.setCell W3 _ _=WD at*;go_roundw;case rel=>exact⟨k+1,_,⟨s1.aM,s1.aL++ [⟨nm,ty⟩]⟩,hlt,by go_num,uV.ae,J5.ae,by
   rw[AY.ae]
   exact Re s1.aL ⟨nm,ty⟩ (by rw[Sv.ae];exact ahW.ae),by
   show(s1.aL++ [_]).length=k+1
   rw[length_append,qM.ae]
   rfl⟩
  case measure=>exact Za6
 ·rw[if_pos HW] at JG;have oO:=aa (show X=.error er by
   rw[AY.ae,JG]
   rfl)
  have t1:(er != 0)=true:=by simp[HW]
  have nV:=aa HW;have HW2:=aa tq.ae.f.J3;clear HW JG;obtain⟨_,_,_,vg,_,_,b4,b5,_⟩:=HW2.ae;open zcz in exact ZaM):p:=h
theorem zhF.KbY(h:p:=by clear HP MI;open zbR in exact ZaD):p:=h
theorem zjk.KcC(h:p:=by go_upto_region 18 with fail;open zhF in exact Ze4):p:=h
theorem zhS.Kb1(h:p:=by
 have oQ:=aa AP;have HP:=aa hP;simp only[bL,fA,Tryz.f28,Option.getD_some] at key;have KEY:=aa key;have b2:=hP.f.z2;unfold fW at b2;have c4:=b2.cell 4;simp only[Uaa] at c4;rw[hn,<- AP] at c4;clear hE hF hO ih q1 q2 hqi Xq ES J8 J7 U7 DF Th uJ q3 q4 Ti hlen q5 hP b2 hn AP key;simp only[bL,fA,Tryz.f28,Option.getD_some];refine wp_seq_k λ K hK=>?_
 have HK:=aa (show∀(gc:List aZ) (v':Value) (w':World),X=.ok gc->gc.length<=q.aL.length->cT c w0 gp g2 (fW q L) g4 g5 D r w' u v' [] ⟨[],gc⟩ hd [] [] [] [] [] []->∀T:Array Value,T.size=252->T.getD 2 undef=aw g2->T.getD 4 undef=aw g4->T.getD 5 undef=aw g5->T.getD 6 undef=aw gp->K { tmps:=T,defers:=d } w' from λ gc v' w' h1 h2 h3 T a1 a2 a3 a4 a5=>hK _ _ (KEY.ae gc v' w' h1 h2 h3 T a1 a2 a3 a4 a5));clear hK KEY;go_wp2_with fail;clear c4;go_loopw [94] (λ i wr=>∃(k:Nat) (v1:Value) (s1:dE),k<=zs.length/\i=af k/\s1.aM=[]/\cT c w0 gp g2 (fW q L) g4 g5 D r wr u v1 [] s1 hd [] [] [] [] [] []/\X=Tm s1.aL (kK c.cols (q.aL.drop k) k)/\s1.aL.length=k) (λ i _=>zs.length - (intOf i).toNat);case atStart=>exact⟨0,v,⟨[],[]⟩,Nat.zero_le _,rfl,rfl,HP.ae,by rw[drop_zero,VV];exact Q5.ae,rfl⟩
 case round=>
  clear HP;obtain⟨k,v1,s1,hk,rfl,Tj,hP,QD,SY⟩:=hrel;have uV:=aa Tj;have AY:=aa QD;have HP:=aa hP;have qM:=aa SY;clear Tj QD hP SY;by_cases hlt:k < zs.length
  ·have fK:k < q.aL.length:=by rw[<- oQ.ae];exact hlt
   obtain⟨b,off,hA,Cw,hex⟩:∃b off,L.g.A=some ⟨b,off,none⟩/\b < w0.heap.size/\cy w0 b (off+k*7) zs[k]:=by exact Zid
   have se:(q.aL[k]'fK).at_ w0 (Old w0) zs[k]:=by obtain⟨KK,h1,h2⟩:=pU fK Q4.ae;rw[getElem?_eq_getElem hlt] at h1;injection h1 with h1;rw[h1];exact h2
   have gj:(q.aL[k]'fK).ok:=dN.1 Q1.ae _ (getElem_mem fK);have JG:kK c.cols (q.aL.drop k) k=(if ((q.aL[k]'fK).type c.cols).2≠0 then .error ((q.aL[k]'fK).type c.cols).2 else match kK c.cols (q.aL.drop (k+1)) (k+1)with
     | .error e=> .error e
     | .ok l=> .ok (⟨iV k,((q.aL[k]'fK).type c.cols).1⟩::l)):=by
    rw[drop_eq_getElem_cons fK];rfl
   generalize zs[k]=y at*;generalize (q.aL[k]'fK)=t at*;open zjk in exact Zhm
  ·have xm:k=zs.length:=by omega
   have J6:=aa (show X=.ok s1.aL by
    rw[AY.ae,xm,oQ.ae,drop_length]
    show Except.ok (s1.aL++ [])=_
    rw[append_nil])
   have HPZ:=aa (show cT c w0 gp g2 (fW q L) g4 g5 D r wr u v1 [] ⟨[],s1.aL⟩ hd [] [] [] [] [] [] by
    have h:=HP.ae
    obtain⟨sa,sg⟩:=s1
    have h2:sa=[]:=uV.ae
    rw[h2] at h
    exact h)
   subst xm;go_wp2_with fail;refine HK.ae s1.aL v1 wr J6.ae (by have:=qM.ae;have:=oQ.ae;omega) HPZ.ae _ ?_ ?_ ?_ ?_ ?_ <;> rfl):p:=h
theorem zf7.Kbk(h:p:=by
 obtain⟨hn,zs,q3,q4⟩:=hig;have AP:zs.length=q.aL.length:=q4.length;obtain⟨X,q5⟩:∃X,X=kK c.cols q.aL 0:=⟨_,rfl⟩
 have key:∀(gc:List aZ) (v':Value) (w':World),X=.ok gc->gc.length<=q.aL.length->cT c w0 gp g2 (fW q L) g4 g5 D r w' u v' [] ⟨[],gc⟩ hd [] [] [] [] [] []->∀T:Array Value,T.size=252->T.getD 2 undef=aw g2->T.getD 4 undef=aw g4->T.getD 5 undef=aw g5->T.getD 6 undef=aw gp->(fA bL 6).wp Tryz.prog Q { tmps:=T,defers:=d } w':=λ gc v' w' hx Aj hp T hT h2 h4 h5 h6=>
  have hR:xa c.aK c.aL c.cols q=zG c.aK c.aL c.cols q ⟨[],gc⟩:=by unfold xa;rw[<- q5,hx]
  K8 c w0 gp g2 g4 g5 D q L r u v' [] ⟨[],gc⟩ hd T hT h2 h4 h5 h6 d w' Q ih hqi Xq ES J8 J7 U7 DF Th uJ Ti (by show gc.length+0+_+_<=_;omega) hp (λ er a W he=>hE er a W (hR.trans he)) (λ a W r' u' v' qE s' xl yi yh yo ti th eE he ha hp=>hO a W r' u' v' qE s' xl yi yh yo ti th eE (hR.trans he) ha hp)
 have hF:∀er a W,X=.error er->er≠0->qG a d g4 g5->wY w0 g4 g5 D W->Q .ret a (jd W g4 g5 er):=λ er a W hx=>hE er a W (by
  unfold xa
  rw[<- q5,hx])
 open zhS in exact Ze7):p:=h
theorem VW (c:PC)(w0:World)(gp g2 g4 g5 D:Nat)(q:Qy)(L:QL)(r:Rest)(u v:Value)(hd:List aZ)(T:Array Value)(hT:T.size=252)
  (h1:T.getD 1 undef=.slice c.cA c.cols.length c.cc) (h2:T.getD 2 undef=aw g2) (h4:T.getD 4 undef=aw g4) (h5:T.getD 5 undef=aw g5) (h6:T.getD 6 undef=aw gp) (d:List Deferred) (w:World) (Q:Exit->Act->World->Prop)
  (ih:c.Ok w0) (q1:Tr.cP q.aL) (hig:fU w0 q.aL L.g.A L.g.n) (q2:q.aL.length<=100000) (hqi:Tr.cP (q.items.map (·.1))) (Xq:eQ w0 (q.items.map λ y=>(y.1,.string y.2)) L.i.A L.i.n) (ES:q.items.length<=100000) (J8:hd.length<=100000)
  (J7:Tr.cP q.ft) (U7:fU w0 q.ft L.h.A L.h.n) (DF:q.ft.length<=1000000) (Th:Tr.cP (q.ord.map (·.1))) (uJ:eQ w0 (q.ord.map λ y=>(y.1,.bool y.2)) L.o.A L.o.n) (Ti:q.ord.length<=1000000) (hlen:q.aL.length+2*Tr.aY (q.items.map (·.1))+(2*Tr.aY q.ft+2*Tr.aY (q.ord.map (·.1)))<=1000000)
  (hP:cT c w0 gp g2 (fW q L) g4 g5 D r w u v [] ⟨[],[]⟩ hd [] [] [] [] [] [])
  (hE:∀er a W,xa c.aK c.aL c.cols q=.error er->er≠0->qG a d g4 g5->wY w0 g4 g5 D W->Q .ret a (jd W g4 g5 er))
  (hO:∀a W r' u' v' qE s' xl yi yh yo ti th eE,xa c.aK c.aL c.cols q=.ok (ti,xl,th,eE,s')->qG a d g4 g5->cT c w0 gp g2 (fW q L) g4 g5 D r' W u' v' qE s' ((if q.items=[] then hd else [])++xl) yi yh yo ti th eE->Q .ret a (jr W g4 g5 gp)):
  (fA bL 5).wp Tryz.prog Q { tmps:=T,defers:=d } w:=by
 open zf7 in exact Zdr
def xd (g:Bool)(aL:List Tr)(cols:List aZ)(q:Qy):Except Int (List Tr×List aZ×List Tr×List Tr×dE):=
 match pC cols q.cK with
 | .error e=> .error e
 | .ok _=>xa g aL cols q
structure PlQ (c:PC) (w0:World) (q:Qy) (L:QL) (hd:List aZ):Prop where
 ok:c.Ok w0
 qw:Tr.cP q.cK
 iw:fU w0 q.cK L.w.A L.w.n
 nw:q.cK.length<=100000
 qg:Tr.cP q.aL
 ig:fU w0 q.aL L.g.A L.g.n
 ng:q.aL.length<=100000
 qi:Tr.cP (q.items.map (·.1))
 ii:eQ w0 (q.items.map λ x=>(x.1,.string x.2)) L.i.A L.i.n
 ni:q.items.length<=100000
 nh:hd.length<=100000
 qh:Tr.cP q.ft
 ih:fU w0 q.ft L.h.A L.h.n
 nhv:q.ft.length<=100000
 qo:Tr.cP (q.ord.map (·.1))
 io:eQ w0 (q.ord.map λ x=>(x.1,.bool x.2)) L.o.A L.o.n
 no:q.ord.length<=1000000
 len:q.aL.length+2*Tr.aY (q.items.map (·.1))+(2*Tr.aY q.ft+2*Tr.aY (q.ord.map (·.1)))<=1000000
theorem zcA.Kat(h:p:=by exact ZhN):p:=h
theorem zbS.Kal(h:p:=by
 clear k1;go_wp2_with fail;clear z0 z1 x2 x3 x4 x5 x6;have xo:=Tr.po (cols:=c.cols) (CA:=c.cA) (cc:=c.cc) (by have:=HH.ae.ok.cl;omega) t y W2 kx.ae (xq.ae.later uh.ae.f.base) (HH.ae.ok.cols.later uh.ae.f.base);have JG:=vo.ae;generalize hR:t.type c.cols=R at*;obtain⟨ty,Kx⟩:=R;dsimp only at JG xo;refine(xo W2 (ai.refl _)).mono ?_;rintro e w6 ⟨rfl,hb6⟩;have HP6:=aa (uh.ae.later hb6);have Ke:=aa JG;clear xo uh hb6 hR vo JG;go_wp2_with fail;refine(uz ty Kx w6).mono ?_;rintro e w7 ⟨rfl,NN⟩;have tq:=aa (HP6.ae.later NN);have JG:=Ke.ae;clear HP6 NN Ke;generalize nL (ty,Kx)=er at*;by_cases HW:er=0
 ·subst HW;rw[if_neg Taa] at JG;have ahW:=aa JG;clear JG;have hk7:k < 1000000:=by have:=HH.ae.nw;have:=oQ.ae;omega
  go_wp2_with fail;go_roundw;case rel=>exact⟨k+1,hlt,by go_num,tq.ae,uV.ae.trans ahW.ae⟩
  case measure=>exact Za6
 ·rw[if_pos HW] at JG;have oO:=aa (show X=.error er from uV.ae.trans JG);have t1:(er != 0)=true:=by simp[HW]
  have nV:=aa HW;have HW2:=aa tq.ae.f.J3;clear HW JG;obtain⟨_,_,_,vg,_,_,b4,b5,_⟩:=HW2.ae;open zcA in exact ZaM):p:=h
theorem zhG.KbY(h:p:=by clear HP MI;open zbS in exact ZaD):p:=h
theorem zjj.KcC(h:p:=by go_upto_region 11 with fail;open zhG in exact Ze4):p:=h
theorem zf8.Kbk(h:p:=by
 obtain⟨hn,zs,q3,q4⟩:=q2.iw;have AP:zs.length=q.cK.length:=q4.length;obtain⟨X,q5⟩:∃X,X=pC c.cols q.cK:=⟨_,rfl⟩
 have key:∀(w':World),X=.ok ()->cT c w0 gp g2 (fW q L) g4 g5 D r w' u v [] ⟨[],[]⟩ hd [] [] [] [] [] []->∀T:Array Value,T.size=252->T.getD 1 undef=.slice c.cA c.cols.length c.cc->T.getD 2 undef=aw g2->T.getD 4 undef=aw g4->T.getD 5 undef=aw g5->T.getD 6 undef=aw gp->(fA bL 5).wp Tryz.prog Q { tmps:=T,defers:=d } w':=λ w' hx hp T hT h1 h2 h4 h5 h6=>
  have hR:xd c.aK c.aL c.cols q=xa c.aK c.aL c.cols q:=by unfold xd;rw[<- q5,hx]
  VW c w0 gp g2 g4 g5 D q L r u v hd T hT h1 h2 h4 h5 h6 d w' Q q2.ok q2.qg q2.ig q2.ng q2.qi q2.ii q2.ni q2.nh q2.qh q2.ih (by have:=q2.nhv;omega) q2.qo q2.io q2.no q2.len hp (λ Kx a W he=>hE Kx a W (hR.trans he)) (λ a W r' u' v' qE s' xl yi yh yo ti th eE he ha hp=>hO a W r' u' v' qE s' xl yi yh yo ti th eE (hR.trans he) ha hp)
 have hE2:∀Kx a W,X=.error Kx->Kx≠0->qG a d g4 g5->wY w0 g4 g5 D W->Q .ret a (jd W g4 g5 Kx):=λ Kx a W hx=>hE Kx a W (by
  unfold xd
  rw[<- q5,hx])
 have HF:=aa hE2;have HH:=aa q2;have Q3:=aa q3;have Q4:=aa q4;have Q5:=aa q5;have oQ:=aa AP;have HP:=aa hP;simp only[bL,fA,Tryz.f28,Option.getD_some] at key;have KEY:=aa key;have b2:=hP.f.z2;unfold fW at b2;have c3:=b2.cell 3;simp only[Uaa] at c3;rw[hn,<- AP] at c3;clear hE hE2 hO q2 q3 q4 q5 hP b2 hn AP key;simp only[bL,fA,Tryz.f28,Option.getD_some];refine wp_seq_k λ K hK=>?_
 have HK:=aa (show∀(w':World),X=.ok ()->cT c w0 gp g2 (fW q L) g4 g5 D r w' u v [] ⟨[],[]⟩ hd [] [] [] [] [] []->∀T:Array Value,T.size=252->T.getD 1 undef=.slice c.cA c.cols.length c.cc->T.getD 2 undef=aw g2->T.getD 4 undef=aw g4->T.getD 5 undef=aw g5->T.getD 6 undef=aw gp->K { tmps:=T,defers:=d } w' from λ w' h1 h3 T a0 a1 a2 a3 a4 a5=>hK _ _ (KEY.ae w' h1 h3 T a0 a1 a2 a3 a4 a5));clear hK KEY;go_wp2_with fail;clear c3;go_loopw [77] (λ i wr=>∃(k:Nat),k<=zs.length/\i=af k/\cT c w0 gp g2 (fW q L) g4 g5 D r wr u v [] ⟨[],[]⟩ hd [] [] [] [] [] []/\X=pC c.cols (q.cK.drop k)) (λ i _=>zs.length - (intOf i).toNat);case atStart=>exact⟨0,Nat.zero_le _,rfl,HP.ae,by rw[drop_zero];exact Q5.ae⟩
 case round=>
  clear HP;obtain⟨k,hk,rfl,hP,Tj⟩:=hrel;have uV:=aa Tj;have HP:=aa hP;clear Tj hP;by_cases hlt:k < zs.length
  ·have fK:k < q.cK.length:=by rw[<- oQ.ae];exact hlt
   obtain⟨b,off,hA,Cw,hex⟩:∃b off,L.w.A=some ⟨b,off,none⟩/\b < w0.heap.size/\cy w0 b (off+k*7) zs[k]:=by exact Zid
   have se:(q.cK[k]'fK).at_ w0 (Old w0) zs[k]:=by obtain⟨KK,h1,h2⟩:=pU fK Q4.ae;rw[getElem?_eq_getElem hlt] at h1;injection h1 with h1;rw[h1];exact h2
   have gj:(q.cK[k]'fK).ok:=dN.1 HH.ae.qw _ (getElem_mem fK);have JG:pC c.cols (q.cK.drop k)=(if nL ((q.cK[k]'fK).type c.cols)≠0 then .error (nL ((q.cK[k]'fK).type c.cols))else pC c.cols (q.cK.drop (k+1))):=by rw[drop_eq_getElem_cons fK];rfl
   generalize zs[k]=y at*;generalize (q.cK[k]'fK)=t at*;open zjj in exact Zhm
  ·have xm:k=zs.length:=by omega
   have J6:=aa (show X=.ok () by
    rw[uV.ae,xm,oQ.ae,drop_length]
    rfl)
   subst xm;go_wp2_with fail;refine HK.ae wr J6.ae HP.ae _ ?_ ?_ ?_ ?_ ?_ ?_ <;> rfl):p:=h
theorem VX (c:PC)(w0:World)(gp g2 g4 g5 D:Nat)(q:Qy)(L:QL)(r:Rest)(u v:Value)(hd:List aZ)(T:Array Value)(hT:T.size=252)
  (h1:T.getD 1 undef=.slice c.cA c.cols.length c.cc) (h2:T.getD 2 undef=aw g2) (h4:T.getD 4 undef=aw g4) (h5:T.getD 5 undef=aw g5) (h6:T.getD 6 undef=aw gp) (d:List Deferred) (w:World) (Q:Exit->Act->World->Prop)
  (q2:PlQ c w0 q L hd)
  (hP:cT c w0 gp g2 (fW q L) g4 g5 D r w u v [] ⟨[],[]⟩ hd [] [] [] [] [] [])
  (hE:∀Kx a W,xd c.aK c.aL c.cols q=.error Kx->Kx≠0->qG a d g4 g5->wY w0 g4 g5 D W->Q .ret a (jd W g4 g5 Kx))
  (hO:∀a W r' u' v' qE s' xl yi yh yo ti th eE,xd c.aK c.aL c.cols q=.ok (ti,xl,th,eE,s')->qG a d g4 g5->cT c w0 gp g2 (fW q L) g4 g5 D r' W u' v' qE s' ((if q.items=[] then hd else [])++xl) yi yh yo ti th eE->Q .ret a (jr W g4 g5 gp)):
  (fA bL 4).wp Tryz.prog Q { tmps:=T,defers:=d } w:=by
 open zf8 in exact Zdr
open Go.Shelf
theorem acD (q:Qy)(L:QL)(w:World):ar 56 #[tJ q L] w λ e w'=>∃g,e=.returned (.func (.func 96) #[] #[aw g])/\aC w' g 27 (fW q L)/\w.heap.size<=g/\aj w w':=by have bb:=ah w (.cells (fW q L) 27);have HX:=aC.new w 27 (fW q L);unfold tJ;unfold fW at*;go_enter Tryz.func56,Tryz.ntmps56;go_wp2_with fail;go_ret;exact⟨w.heap.size,rfl,HX,Nat.le_refl _,bb⟩
attribute [local go_sem] Oper.semAt_some
def dD (D:Nat):List Deferred:=[{ target:=.collected D,args:= #[] }]
def sD (g:Bool)(aL:List Tr)(cols:List aZ)(q:Qy):Except Int (List Tr×List aZ×List Tr×List Tr×dE):=
 if q.all.any (λ t=>decide (32 < t.depth))=true then .error 1 else xd g aL cols q
structure DJ (c:PC) (w0:World) (q:Qy) (L:QL) (hd:List aZ):Prop where
 ok:c.Ok w0
 qw:Tr.cP q.cK
 iw:fU w0 q.cK L.w.A L.w.n
 nw:q.cK.length<=100000
 qg:Tr.cP q.aL
 ig:fU w0 q.aL L.g.A L.g.n
 ng:q.aL.length<=100000
 qi:Tr.cP (q.items.map (·.1))
 ii:eQ w0 (q.items.map λ x=>(x.1,.string x.2)) L.i.A L.i.n
 ni:q.items.length<=100000
 nh:hd.length<=100000
 qh:Tr.cP q.ft
 ih:fU w0 q.ft L.h.A L.h.n
 nhv:q.ft.length<=100000
 qo:Tr.cP (q.ord.map (·.1))
 io:eQ w0 (q.ord.map λ x=>(x.1,.bool x.2)) L.o.A L.o.n
 no:q.ord.length<=1000000
 len:q.all.any (λ t=>decide (32 < t.depth))=false->q.aL.length+2*Tr.aY (q.items.map (·.1))+(2*Tr.aY q.ft+2*Tr.aY (q.ord.map (·.1)))<=1000000
variable{q:Qy}{L:QL}
theorem DJ.full(h:DJ c w0 q L hd)(hx:q.all.any (λ t=>decide (32 < t.depth))=false):PlQ c w0 q L hd:=
 ⟨h.ok,h.qw,h.iw,h.nw,h.qg,h.ig,h.ng,h.qi,h.ii,h.ni,h.nh,h.qh,h.ih,h.nhv,h.qo,h.io,h.no,h.len hx⟩
theorem L0(hq:DJ c w0 q L hd)(n:Nat)(hn:1<=n)(w:World)(gq:Nat)(hb:aC w gq 27 (fW q L))(hw:aj w0 w):
  ∃LL:List (QE w0),LL.map (λ x=>x.1.2)=q.all/\SeqStopsK Fence.wide n Tryz.prog 96 #[aw gq] Qv Fr (λ ys=>ys=LL) (λ pre=>pre <+: LL) LL.length w:=by
 obtain⟨ni,zs,hzi,Ny,aoS⟩:=hq.ii;obtain⟨no,zo,hzo,aoT,aoU⟩:=hq.io;obtain⟨nw,yw,hyw,ahX⟩:=hq.iw;obtain⟨ng,yg,hyg,ahY⟩:=hq.ig;obtain⟨nh,yh,hyh,ahZ⟩:=hq.ih;rw[length_map] at ni no;have e1:(q.items.map λ x=>(x.1,Value.string x.2)).map (·.1)=q.items.map (·.1):=by simp
 have e2:(q.ord.map λ x=>(x.1,Value.bool x.2)).map (·.1)=q.ord.map (·.1):=by simp
 rw[e1] at aoS;rw[e2] at aoU;obtain⟨Li,l1,l2⟩:=AX _ _ hq.qi aoS;obtain⟨Lc,l3,l4⟩:=AX (q.cK++q.aL++q.ft) (yw++yg++yh) (dN.2 λ t ht=>by
  rcases List.mem_append.1 ht with ht | ht
  ·rcases List.mem_append.1 ht with ht | ht
   ·exact dN.1 hq.qw t ht
   ·exact dN.1 hq.qg t ht
  ·exact dN.1 hq.qh t ht) (Tr.all_append (Tr.all_append ahX ahY) ahZ)
 obtain⟨Lo,l5,l6⟩:=AX _ _ hq.qo aoU;refine⟨Li++Lc++Lo,by unfold Qy.all;rw[map_append,map_append,l2,l4,l6],?_⟩;have Zx:zs.length=q.items.length:=by have:=congrArg List.length Ny;simpa using this
 have fK:zo.length=q.ord.length:=by have:=congrArg List.length aoT;simpa using this
 intro l J Jx W hW hJ hJx hY h0
 have:=abv w0 n hn l gq q L zs zo yw yg yh Li Lc Lo hzi hzo hyw.old hyg.old hyh.old WC WC (by rw[nw,ahX.length]) (by rw[ng,ahY.length]) (by rw[nh,ahZ.length]) l1 l5 l3
  (λ z hz=>by
    have h1:z.2∈zs.map (·.2):=mem_map_of_mem hz
    rw[Ny] at h1
    obtain⟨a,ha,hb⟩:=List.mem_map.1 h1
    obtain⟨a2,_,rfl⟩:=List.mem_map.1 ha
    exact⟨_,hb.symm⟩)
  (λ z hz=>by
    have h1:z.2∈zo.map (·.2):=mem_map_of_mem hz
    rw[aoT] at h1
    obtain⟨a,ha,hb⟩:=List.mem_map.1 h1
    obtain⟨a2,_,rfl⟩:=List.mem_map.1 ha
    exact⟨_,hb.symm⟩)
  ⟨by have:=hq.ni;omega,by have:=hq.no;omega,by
    have a1:=hq.nw
    have a2:=hq.ng
    have a3:=hq.nhv
    have b1:=ahX.length
    have b2:=ahY.length
    have b3:=ahZ.length
    rw[length_append,length_append]
    omega⟩ J Jx W hJ hY (hb.later hW) ((Fr.below hw).trans (Fr.below hW)) h0
 exact this
attribute [local go_sem] Oper.semAt_some
def zH(x:QE w0):Bool:=decide (32 < x.1.2.depth)
def aia (w0:World)(g4 g5:Nat)(W:World):Prop:=aj w0 W/\aC W g4 72 #[.pointer none]/\aC W g5 34 #[af 1]
def JJ:Code->Code
 | .seq (.seq _ (.block _ c)) _=>c
 | _=> .skip
noncomputable def Rf:Code:=JJ (fA bL 3)
variable{W':World}{row:Option Nat}
theorem DL(h:aC W g t cs)(hg:W.grownBy W' row)(hr:∀r,row=some r->∃o:Obj,W.heap[r]?=some o/\o.isCells=false):aC W' g t cs:=h.grown hg λ e=>by obtain⟨o,h1,h2⟩:=hr g e.symm;rw[h] at h1;injection h1 with h1;rw[<- h1] at h2;cases h2
theorem zeA.KaR(h:p:=by
 clear hb;gi_wp2_with (refine⟨trivial,?_⟩;gi_at_call 57;refine(CallsIn.inRound l (callsIn_wide.2 aib)).mono ?_;rintro e W2 ⟨rfl,hb2⟩;clear aib;have c4:=(H4.ae.later hb2).cell 0;have c5:=((H5.ae.later hb2).far (p:=⟨g4,0,none⟩) (Ne.symm AO) (.pointer none)).cell 0;have f4:=(H4.ae.later hb2).frozen 0;have f5:=((H5.ae.later hb2).far (p:=⟨g4,0,none⟩) (Ne.symm AO) (.pointer none)).frozen 0;simp only[getElem?_toArray,getElem?_cons_zero] at c4 c5)
 ·rename_i hdp;have hx:zH x=true:=by unfold zH;first | exact decide_eq_true WC| simpa using hdp
  refine⟨?_,rfl,by rw[any_append,any_cons,hx];simp,?_⟩
  ·exact(((KeepsOthers.of_grownBy (nO hb2) (λ _ _ e _=>by cases e)).trans (KeepsOthers.setCell _ _ _)).trans (KeepsOthers.setCell _ _ _)).from _
  ·refine⟨((Below.trans Kx ((HI1.ae.mono Kx.size).trans (hb2.mono (Nat.le_trans Kx.size HI1.ae.size)))).setCell hl4 _).setCell hl5 _,?_,?_⟩
   ·exact(((H4.ae.later hb2).aW 0 _).far (p:=⟨g5,0,none⟩) AO _)
   ·exact(((H5.ae.later hb2).far (p:=⟨g4,0,none⟩) (Ne.symm AO) _).aW 0 _)
 ·rename_i hdp;have hx:zH x=false:=by unfold zH;first | exact decide_eq_false WC| simpa using hdp
  exact⟨(KeepsOthers.of_grownBy (nO hb2) (λ _ _ e _=>by cases e)).from _,Fr.below hb2,HI1.ae.trans (hb2.mono HI1.ae.size),by rw[any_append,any_cons,hx,HI2.ae];rfl⟩):p:=h
theorem VY (w0 w1:World)(LL:List (QE w0))(gq g4 g5:Nat)(T:Array Value)(hT:T.size=252)(h4:T.getD 4 undef=aw g4)(h5:T.getD 5 undef=aw g5)(h69:T.getD 69 undef=.func (.func 96) #[] #[aw gq])
  (hseq:SeqStopsK Fence.wide 3 Tryz.prog 96 #[aw gq] Qv Fr (λ ys=>ys=LL) (λ pre=>pre <+: LL) LL.length w1)
  (Kx:aj w0 w1) (hb4:aC w1 g4 72 #[.pointer none]) (Iq:aC w1 g5 34 #[af 0]) (AO:g4≠g5) (hl4:w0.heap.size<=g4) (hl5:w0.heap.size<=g5) (Q:Exit->Act->World->Prop)
  (hdone:∀D W,aj w1 W->w1.heap.size<=D->W.heap[D]?=some (.deferred (some []))->LL.any zH=false->Q .normal { tmps:=T,defers:=[{ target:=.collected D,args:= #[] }] } W)
  (Tn:∀D W,w1.heap.size<=D->LL.any zH=true->aia w0 g4 g5 W->W.heap[D]?=some (.deferred (some []))->Q .ret { tmps:=T,defers:=[{ target:=.collected D,args:= #[] }] } W):
  Rf.wp Tryz.prog Q { tmps:=T,defers:=[] } w1:=by
 obtain⟨f,rfl⟩:=kS T hT;have h4:f 4=_:=h4;have h5:f 5=_:=h5;have h69:f 69=_:=h69;have oC:bZ f= #[f 0,f 1,f 2,f 3,aw g4,aw g5,f 6,f 7,f 8,f 9,f 10,f 11,f 12,f 13,f 14,f 15,f 16,f 17,f 18,f 19,f 20,f 21,f 22,f 23,f 24,f 25,f 26,f 27,f 28,f 29,f 30,f 31,f 32,f 33,f 34,f 35,f 36,f 37,f 38,f 39,f 40,f 41,f 42,f 43,f 44,f 45,f 46,f 47,f 48,f 49,f 50,f 51,f 52,f 53,f 54,f 55,f 56,f 57,f 58,f 59,f 60,f 61,f 62,f 63,f 64,f 65,f 66,f 67,f 68,.func (.func 96) #[] #[aw gq],f 70,f 71,f 72,f 73,f 74,f 75,f 76,f 77,f 78,f 79,f 80,f 81,f 82,f 83,f 84,f 85,f 86,f 87,f 88,f 89,f 90,f 91,f 92,f 93,f 94,f 95,f 96,f 97,f 98,f 99,f 100,f 101,f 102,f 103,f 104,f 105,f 106,f 107,f 108,f 109,f 110,f 111,f 112,f 113,f 114,f 115,f 116,f 117,f 118,f 119,f 120,f 121,f 122,f 123,f 124,f 125,f 126,f 127,f 128,f 129,f 130,f 131,f 132,f 133,f 134,f 135,f 136,f 137,f 138,f 139,f 140,f 141,f 142,f 143,f 144,f 145,f 146,f 147,f 148,f 149,f 150,f 151,f 152,f 153,f 154,f 155,f 156,f 157,f 158,f 159,f 160,f 161,f 162,f 163,f 164,f 165,f 166,f 167,f 168,f 169,f 170,f 171,f 172,f 173,f 174,f 175,f 176,f 177,f 178,f 179,f 180,f 181,f 182,f 183,f 184,f 185,f 186,f 187,f 188,f 189,f 190,f 191,f 192,f 193,f 194,f 195,f 196,f 197,f 198,f 199,f 200,f 201,f 202,f 203,f 204,f 205,f 206,f 207,f 208,f 209,f 210,f 211,f 212,f 213,f 214,f 215,f 216,f 217,f 218,f 219,f 220,f 221,f 222,f 223,f 224,f 225,f 226,f 227,f 228,f 229,f 230,f 231,f 232,f 233,f 234,f 235,f 236,f 237,f 238,f 239,f 240,f 241,f 242,f 243,f 244,f 245,f 246,f 247,f 248,f 249,f 250,f 251]:=by simp only[bZ,h4,h5,h69]
 rw[oC] at hdone Tn ⊢;clear oC h4 h5 h69;clear h4 h5 h69 hT;have HD:=aa hdone;have HS:=aa Tn;have L1:=hseq;simp only[Rf,JJ,bL,fA,Tryz.f28,Option.getD_some];refine(wpIn_wide (n:=4)).1 ?_
 refine wpIn_rangeFunc_ownH rfl WC (gf:=96) (lb:= #[aw gq]) rfl trivial (enters_of Tryz.func96 Vx rfl) L1 (λ h k=>Fr.trans h k) (λ W l ob ob' _ h1 h2 _=>Fr.putObj W l ob ob' h1 h2) (Below.refl _ _) (λ _=>rfl)
  (λ pre W=>aj w1 W/\pre.any zH=false)
  (λ cd pre W=>cd=.ret/\pre.any zH=true/\aia w0 g4 g5 W)
  ?hI ?hIx ?h0
  (λ x a' W=>∃g7,aC W g7 46 (bI x.1.1).toArray/\a'= { tmps:= #[f 0,f 1,f 2,f 3,aw g4,aw g5,f 6,aw g7,f 8,f 9,f 10,f 11,f 12,f 13,f 14,f 15,f 16,f 17,f 18,f 19,f 20,f 21,f 22,f 23,f 24,f 25,f 26,f 27,f 28,f 29,f 30,f 31,f 32,f 33,f 34,f 35,f 36,f 37,f 38,f 39,f 40,f 41,f 42,f 43,f 44,f 45,f 46,f 47,f 48,f 49,f 50,f 51,f 52,f 53,f 54,f 55,f 56,f 57,f 58,f 59,f 60,f 61,f 62,f 63,f 64,f 65,f 66,f 67,f 68,.func (.func 96) #[] #[aw gq],(.agg (bI x.1.1).toArray),f 71,f 72,f 73,f 74,f 75,f 76,f 77,f 78,f 79,f 80,f 81,f 82,f 83,f 84,f 85,f 86,f 87,f 88,f 89,f 90,f 91,f 92,f 93,f 94,f 95,f 96,f 97,f 98,f 99,f 100,f 101,f 102,f 103,f 104,f 105,f 106,f 107,f 108,f 109,f 110,f 111,f 112,f 113,f 114,f 115,f 116,f 117,f 118,f 119,f 120,f 121,f 122,f 123,f 124,f 125,f 126,f 127,f 128,f 129,f 130,f 131,f 132,f 133,f 134,f 135,f 136,f 137,f 138,f 139,f 140,f 141,f 142,f 143,f 144,f 145,f 146,f 147,f 148,f 149,f 150,f 151,f 152,f 153,f 154,f 155,f 156,f 157,f 158,f 159,f 160,f 161,f 162,f 163,f 164,f 165,f 166,f 167,f 168,f 169,f 170,f 171,f 172,f 173,f 174,f 175,f 176,f 177,f 178,f 179,f 180,f 181,f 182,f 183,f 184,f 185,f 186,f 187,f 188,f 189,f 190,f 191,f 192,f 193,f 194,f 195,f 196,f 197,f 198,f 199,f 200,f 201,f 202,f 203,f 204,f 205,f 206,f 207,f 208,f 209,f 210,f 211,f 212,f 213,f 214,f 215,f 216,f 217,f 218,f 219,f 220,f 221,f 222,f 223,f 224,f 225,f 226,f 227,f 228,f 229,f 230,f 231,f 232,f 233,f 234,f 235,f 236,f 237,f 238,f 239,f 240,f 241,f 242,f 243,f 244,f 245,f 246,f 247,f 248,f 249,f 250,f 251],defers:=[] })
  ?hAx ?assign ?body ?done ?stop
 case hI=>exact λ s W W' row hs hg hr=>⟨hs.1.grown hg hs.1.size (λ k e=>(hr k e).1),hs.2⟩
 case hIx=>exact λ cd s W W' row hs hg hr=>⟨hs.1,hs.2.1,hs.2.2.1.grown hg hs.2.2.1.size (λ k e=>Nat.le_trans Kx.size (hr k e).1),DL hs.2.2.2.1 hg (λ r e=>(hr r e).2),DL hs.2.2.2.2 hg (λ r e=>(hr r e).2)⟩
 case h0=>exact⟨Below.refl _ _,rfl⟩
 case hAx=>rintro x a' s W W' row ⟨g7,h1,h2⟩ hg hr;exact⟨g7,DL h1 hg (λ r e=>(hr r e).2),h2⟩
 case assign=>
  rintro l pre x W K ⟨hi1,Kg⟩ hK;have hbn:=aC.new W 46 (bI x.1.1).toArray;have bbn:=ah W (.cells (bI x.1.1).toArray 46);have hK2:=hK { tmps:= #[f 0,f 1,f 2,f 3,aw g4,aw g5,f 6,aw W.heap.size,f 8,f 9,f 10,f 11,f 12,f 13,f 14,f 15,f 16,f 17,f 18,f 19,f 20,f 21,f 22,f 23,f 24,f 25,f 26,f 27,f 28,f 29,f 30,f 31,f 32,f 33,f 34,f 35,f 36,f 37,f 38,f 39,f 40,f 41,f 42,f 43,f 44,f 45,f 46,f 47,f 48,f 49,f 50,f 51,f 52,f 53,f 54,f 55,f 56,f 57,f 58,f 59,f 60,f 61,f 62,f 63,f 64,f 65,f 66,f 67,f 68,.func (.func 96) #[] #[aw gq],(.agg (bI x.1.1).toArray),f 71,f 72,f 73,f 74,f 75,f 76,f 77,f 78,f 79,f 80,f 81,f 82,f 83,f 84,f 85,f 86,f 87,f 88,f 89,f 90,f 91,f 92,f 93,f 94,f 95,f 96,f 97,f 98,f 99,f 100,f 101,f 102,f 103,f 104,f 105,f 106,f 107,f 108,f 109,f 110,f 111,f 112,f 113,f 114,f 115,f 116,f 117,f 118,f 119,f 120,f 121,f 122,f 123,f 124,f 125,f 126,f 127,f 128,f 129,f 130,f 131,f 132,f 133,f 134,f 135,f 136,f 137,f 138,f 139,f 140,f 141,f 142,f 143,f 144,f 145,f 146,f 147,f 148,f 149,f 150,f 151,f 152,f 153,f 154,f 155,f 156,f 157,f 158,f 159,f 160,f 161,f 162,f 163,f 164,f 165,f 166,f 167,f 168,f 169,f 170,f 171,f 172,f 173,f 174,f 175,f 176,f 177,f 178,f 179,f 180,f 181,f 182,f 183,f 184,f 185,f 186,f 187,f 188,f 189,f 190,f 191,f 192,f 193,f 194,f 195,f 196,f 197,f 198,f 199,f 200,f 201,f 202,f 203,f 204,f 205,f 206,f 207,f 208,f 209,f 210,f 211,f 212,f 213,f 214,f 215,f 216,f 217,f 218,f 219,f 220,f 221,f 222,f 223,f 224,f 225,f 226,f 227,f 228,f 229,f 230,f 231,f 232,f 233,f 234,f 235,f 236,f 237,f 238,f 239,f 240,f 241,f 242,f 243,f 244,f 245,f 246,f 247,f 248,f 249,f 250,f 251],defers:=[] } (W.alloc (.cells (bI x.1.1).toArray 46)) ((KeepsOthers.alloc _ _).from _) (Fr.below bbn) ⟨Below.trans hi1 (bbn.mono hi1.size),Kg⟩ ⟨_,hbn,rfl⟩
  clear hK hdone Tn HD HS L1 hseq;unfold bI at*;simp only[Qv];gi_wp2;exact hK2
 case body=>rintro l pre x a' W hl ⟨r,hr⟩ ⟨hi1,Kg⟩ ⟨g7,hb,rfl⟩ hlt;have aib:=Tr.Yw x.1.2 x.1.1 w0 x.2.1 x.2.2 W (Below.trans Kx (hi1.mono Kx.size));have H4:=aa (hb4.later hi1);have H5:=aa (Iq.later hi1);have HI1:=aa hi1;have HI2:=aa Kg;clear hdone Tn HD HS L1 hseq hr hi1 Kg;unfold mK at aib;open zeA in exact ZbO
 case done=>rintro D xs W hD rfl ⟨h1,h2⟩ h3;exact HD.ae D W h1 hD h3 h2
 case stop=>
  rintro D cd pre W hD Ek ⟨rfl,h1,h2⟩ h3;have hx:=HS.ae D W hD (by
   obtain⟨x,hx1,hx2⟩:=List.any_eq_true.1 h1
   exact List.any_eq_true.2 ⟨x,Ek.subset hx1,hx2⟩) h2 h3
  gi_wp2;exact hx
attribute [local go_sem] Oper.semAt_some
theorem zhq.KbR(h:p:=by
 clear hE hE1 hO AP hP hL cL hb4 Iq AO hl4 hl5 key;simp only[bL,fA,Tryz.f28,Option.getD_some];refine wp_seq_k λ K hK=>?_
 have HK:=aa (show∀(D:Nat) (w':World),w0.heap.size<=D->q.all.any (λ t=>decide (32 < t.depth))=false->cT c w0 gp g2 (fW q L) g4 g5 D r w' u v [] ⟨[],[]⟩ hd [] [] [] [] [] []->∀T:Array Value,T.size=252->T.getD 1 undef=.slice c.cA c.cols.length c.cc->T.getD 2 undef=aw g2->T.getD 4 undef=aw g4->T.getD 5 undef=aw g5->T.getD 6 undef=aw gp->K { tmps:=T,defers:=dD D } w' from λ D w' h0 h1 h3 T a0 a1 a2 a3 a4 a5=>hK _ _ (HF.ae D w' h0 h1 h3 T a0 a1 a2 a3 a4 a5));clear hK HF;go_wp2_with fail;clear y0 y1 y2 y3 y4 y5 y6 c7;refine(acD q L w).mono ?_;rintro e w1 ⟨gq,rfl,NJ,Aj,hb1⟩;obtain⟨LL,hLL,hseq⟩:=L0 oQ.ae 3 WC w1 gq NJ (Below.trans IH.ae (hb1.mono IH.ae.size));have Aa:=aa hLL;have L1:=aa hseq;have eN:=aa hb1;clear NJ Aj hb1 hLL hseq;go_wp2_with fail;have aoW:=λ(T:Array Value) hT e4 e5 e69 (Q2:Exit->Act->World->Prop) hd hs=>VY w0 w1 LL gq g4 g5 T hT e4 e5 e69 L1.ae (Below.trans IH.ae (eN.ae.mono IH.ae.size)) (HH.ae.later eN.ae) (Q5.ae.later eN.ae) HL.ae.1 HL.ae.2.1 HL.ae.2.2 Q2 hd hs
 simp only[Rf,JJ,bL,fA,Tryz.f28,Option.getD_some] at aoW;refine aoW _ ?_ ?_ ?_ ?_ _ ?_ ?_
 ·rfl
 ·rfl
 ·rfl
 ·rfl
 ·intro D W a1 a2 a3 a4;have nX:=Below.trans eN.ae (a1.mono eN.ae.size);exact HK.ae D W (Nat.le_trans IH.ae.size (Nat.le_trans eN.ae.size a2)) (by rw[<- Aa.ae,any_map];exact a4) (HP.ae W D nX (Nat.le_trans eN.ae.size a2) a3) _ rfl rfl rfl rfl rfl rfl
 ·intro D W a0 a1 a2 a3;exact PE.ae D _ W (Nat.le_trans IH.ae.size (Nat.le_trans eN.ae.size a0)) (by rw[<- Aa.ae,any_map];exact a1) ⟨rfl,rfl,rfl⟩ a2 a3):p:=h
theorem zf9.Kbk(h:p:=by
 have key:∀(D:Nat) (w':World),w0.heap.size<=D->q.all.any (λ t=>decide (32 < t.depth))=false->cT c w0 gp g2 (fW q L) g4 g5 D r w' u v [] ⟨[],[]⟩ hd [] [] [] [] [] []->∀T:Array Value,T.size=252->T.getD 1 undef=.slice c.cA c.cols.length c.cc->T.getD 2 undef=aw g2->T.getD 4 undef=aw g4->T.getD 5 undef=aw g5->T.getD 6 undef=aw gp->(fA bL 4).wp Tryz.prog Q { tmps:=T,defers:=dD D } w':=λ D w' hDD hx hp T hT h1 h2 h4 h5 h6=>
  have hR:sD c.aK c.aL c.cols q=xd c.aK c.aL c.cols q:=if_neg (by rw[hx];decide)
  VX c w0 gp g2 g4 g5 D q L r u v hd T hT h1 h2 h4 h5 h6 (dD D) w' Q (AP.full hx) hp (λ er a W he=>hE D er a W hDD (hR.trans he)) (λ a W r' u' v' qE s' xl yi yh yo ti th eE he ha hp=>hO D a W r' u' v' qE s' xl yi yh yo ti th eE hDD (hR.trans he) ha hp)
 have PE:=aa hE1;have oQ:=aa AP;have HP:=aa hP;simp only[bL,fA,Tryz.f28,Option.getD_some] at key;have HF:=aa key;have IH:=aa hL;have Q1:=aa cL;have HH:=aa hb4;have Q5:=aa Iq;have HL:=aa (And.intro AO (And.intro hl4 hl5));unfold fW at cL;open zhq in exact ZeW):p:=h
theorem acE (c:PC)(w0:World)(gp g2 g4 g5:Nat)(q:Qy)(L:QL)(r:Rest)(u v:Value)(hd:List aZ)(T:Array Value)(hT:T.size=252)
  (h1:T.getD 1 undef=.slice c.cA c.cols.length c.cc) (h2:T.getD 2 undef=aw g2) (h4:T.getD 4 undef=aw g4) (h5:T.getD 5 undef=aw g5) (h6:T.getD 6 undef=aw gp) (w:World) (Q:Exit->Act->World->Prop)
  (AP:DJ c w0 q L hd)
  (hP:∀W D,aj w W->w.heap.size<=D->W.heap[D]?=some (.deferred (some []))->cT c w0 gp g2 (fW q L) g4 g5 D r W u v [] ⟨[],[]⟩ hd [] [] [] [] [] [])
  (hL:aj w0 w) (cL:aC w g2 27 (fW q L)) (hb4:aC w g4 72 #[.pointer none]) (Iq:aC w g5 34 #[af 0]) (AO:g4≠g5) (hl4:w0.heap.size<=g4) (hl5:w0.heap.size<=g5)
  (hE1:∀D a W,w0.heap.size<=D->q.all.any (λ t=>decide (32 < t.depth))=true->qG a (dD D) g4 g5->aia w0 g4 g5 W->W.heap[D]?=some (.deferred (some []))->Q .ret a W)
  (hE:∀D er a W,w0.heap.size<=D->sD c.aK c.aL c.cols q=.error er->er≠0->qG a (dD D) g4 g5->wY w0 g4 g5 D W->Q .ret a (jd W g4 g5 er))
  (hO:∀D a W r' u' v' qE s' xl yi yh yo ti th eE,w0.heap.size<=D->sD c.aK c.aL c.cols q=.ok (ti,xl,th,eE,s')->qG a (dD D) g4 g5->cT c w0 gp g2 (fW q L) g4 g5 D r' W u' v' qE s' ((if q.items=[] then hd else [])++xl) yi yh yo ti th eE->Q .ret a (jr W g4 g5 gp)):
  (fA bL 3).wp Tryz.prog Q { tmps:=T,defers:=[] } w:=by
 open zf9 in exact Zdr
end Go.Proofs.YtndgjggokjickaaGreatDoor
