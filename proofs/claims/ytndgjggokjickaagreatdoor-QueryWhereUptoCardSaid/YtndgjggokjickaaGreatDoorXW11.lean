/- Parts of the proof. -/
import Derived.Test.YtndgjggokjickaaGreatDoorXW10
namespace Go.Proofs.YtndgjggokjickaaGreatDoor
variable{p:Prop}
set_option maxHeartbeats 90000000
set_option maxRecDepth 100000
open Go.ChangeShapes Go.WideShapes Go.ChangeAt Go.RowKit Go.Shelf List
set_option linter.unusedVariables false
set_option linter.unusedSimpArgs false
def jL (q:Qy):Prop:=1 < q.bT.length\/1 < q.fq.length\/1 < q.lim.length\/(q.lim.length=1/\q.lim.getD 0 0 < 0)
theorem zbT.Kal(h:p:=by
 simp only[bJ,fA,Tryz.f28,Option.getD_some] at hO ⊢;have HO:=aa hO;clear hO;refine wp_seq_k λ K hK=>?_
 have DM:=aa hK;clear hK;by_cases t1:1 < q.bT.length
 ·have t1':(1:Int)<((q.bT.length:Nat):Int):=by omega
  go_wp2_with fail;exact HE.ae _ (.inl t1) ⟨rfl,rfl,rfl⟩
 ·have t1':¬(1:Int)<((q.bT.length:Nat):Int):=by omega
  by_cases t2:1 < q.fq.length
  ·have t2':(1:Int)<((q.fq.length:Nat):Int):=by omega
   go_wp2_with fail;exact HE.ae _ (.inr (.inl t2)) ⟨rfl,rfl,rfl⟩
  ·have t2':¬(1:Int)<((q.fq.length:Nat):Int):=by omega
   cases pJ:q.lim with
   | nil=>
     rw[pJ] at c7;have HN:=aa (show¬jL q from λ h=>by
      unfold jL at h
      rw[pJ] at h
      rcases h with h | h | h | h
      ·exact t1 h
      ·exact t2 h
      ·simp at h
      ·simp at h)
     clear pJ L0 t1 t2;exact ZfC
   | cons l0 ls=>
     rw[pJ] at c7
     cases hls:ls with
     | nil=>
       subst hls
       have hcell:∃b off,L.l.A=some ⟨b,off,none⟩/\w.cell? ⟨b,off,none⟩=some (af l0):=by
        rcases L0 with h |⟨b,off,h1,_,h3⟩
        ·rw[pJ] at h;cases h
        ·exact⟨b,off,h1,h3 0 l0 (by rw[pJ];rfl)⟩
       obtain⟨b,off,hA,hc⟩:=hcell;rw[hA] at c7;by_cases t4:l0 < 0
       ·have HB:=aa (show jL q from .inr (.inr (.inr ⟨by rw[pJ];rfl,by rw[pJ];exact t4⟩)));clear pJ L0 hA t1 t2;go_wp2_with fail;exact HE.ae _ HB.ae ⟨rfl,rfl,rfl⟩
       ·have HN:=aa (show¬jL q from λ h=>by
         unfold jL at h
         rw[pJ] at h
         rcases h with h | h | h | h
         ·exact t1 h
         ·exact t2 h
         ·simp at h
         ·exact t4 h.2)
        clear pJ L0 hA t1 t2;exact ZfC
     | cons l1 ls2=>
       subst hls;have t3:(1:Int)<(((l0::l1::ls2).length:Nat):Int):=by simp only[length_cons];omega
       have HB:=aa (show jL q from .inr (.inr (.inl (by rw[pJ];simp))));generalize (l0::l1::ls2).length=n3 at*;clear pJ L0 t1 t2;go_wp2_with fail;exact HE.ae _ HB.ae ⟨rfl,rfl,rfl⟩):p:=h
theorem adW (g1 g2 g4 g5 gp:Nat)(q:Qy)(L:QL)(T:Array Value)(hT:T.size=252)(h2:T.getD 2 undef=aw g2)(h4:T.getD 4 undef=aw g4)(h5:T.getD 5 undef=aw g5)(w:World)(Q:Exit->Act->World->Prop)
  (hw:L.w.n=q.bT.length) (hh:L.h.n=q.fq.length) (hl:L.l.n=q.lim.length) (L0:Ur w w.heap.size L.l.A q.lim) (hb2:aB w g2 27 (eI q L)) (b4:aB w g4 72 #[.pointer none]) (b5:aB w g5 34 #[af 0]) (uK:g4≠g5)
  (hE:∀a,jL q->ql a [] g4 g5->Q .ret a (jk w g4 g5 1))
  (hO:¬jL q->∀z39 z40 z41 z42 z43 z44 z45 z46 z47 z48 z49 z50 z51 z52 z53 z54 z55 z56 z57 z58 z59 z60 z61 z62 z63 z64 z65 z66 z67:Value,(fA bJ 3).wp Tryz.prog Q { tmps:=(((((((((((((((((((((((((((((T.setIfInBounds 39 z39).setIfInBounds 40 z40).setIfInBounds 41 z41).setIfInBounds 42 z42).setIfInBounds 43 z43).setIfInBounds 44 z44).setIfInBounds 45 z45).setIfInBounds 46 z46).setIfInBounds 47 z47).setIfInBounds 48 z48).setIfInBounds 49 z49).setIfInBounds 50 z50).setIfInBounds 51 z51).setIfInBounds 52 z52).setIfInBounds 53 z53).setIfInBounds 54 z54).setIfInBounds 55 z55).setIfInBounds 56 z56).setIfInBounds 57 z57).setIfInBounds 58 z58).setIfInBounds 59 z59).setIfInBounds 60 z60).setIfInBounds 61 z61).setIfInBounds 62 z62).setIfInBounds 63 z63).setIfInBounds 64 z64).setIfInBounds 65 z65).setIfInBounds 66 z66).setIfInBounds 67 z67),defers:=[] } w):
  (fA bJ 2).wp Tryz.prog Q { tmps:=T,defers:=[] } w:=by obtain⟨f,rfl⟩:=kP T hT;have h2:f 2=_:=h2;have h4:f 4=_:=h4;have h5:f 5=_:=h5;simp only[bS,Uac] at hO;simp only[bS,h2,h4,h5] at hO ⊢;clear h2 h4 h5;clear h2 h4 h5 hT;have HE:=aa hE;unfold eI at hb2;have c3:=hb2.cell 3;have Kx:=hb2.cell 5;have c7:=hb2.cell 7;simp only[Uaa] at c3 Kx c7;rw[hw] at c3;rw[hh] at Kx;rw[hl] at c7;clear hw hh hl hE hb2;open zbT in exact ZaC
variable{α:Type}{f:α->List Value}{e:TypeId}{size B:Nat}{v:Value}{l:List α}
theorem Du{base:Nat} {w:World}  (h:aF f e size w base v l)(hB:B<=base):aF f e size w B v l:=by
 refine⟨h.1,?_⟩;rcases h.2 with h |⟨g,cap,cur,h1,h2,h3⟩
 ·exact .inl h
 ·exact .inr ⟨g,cap,cur,h1,Nat.le_trans hB h2,h3⟩
def PlB (B:Nat)(q:Qy)(L:QL)(CA:Option Addr)(cc:Nat)(cols:List aW)(w:World)(g:Nat):Prop:=∃hv:Value,aB w g 81 #[.slice L.i.A L.i.n L.i.c,.string q.bS,.bool q.only,.slice L.w.A L.w.n L.w.c,.slice L.g.A L.g.n L.g.c,.slice L.h.A L.h.n L.h.c,.slice L.o.A L.o.n L.o.c,.slice L.l.A L.l.n L.l.c,.slice CA cols.length cc,az,az,.bool q.aK,hv,az,az,az]/\aF aS 113 2 w B hv cols/\hv.ownBlock≠some g/\B<=g
variable{q:Qy}{L:QL}{CA:Option Addr}{cc:Nat}{cols:List aW}{w':World}
theorem PlB.later{w:World} {g:Nat}(h:PlB B q L CA cc cols w g)(hb:aj w w'):PlB B q L CA cc cols w' g:=by obtain⟨hv,h1,h2,h3⟩:=h;exact⟨hv,h1.later hb,h2.later hb,h3⟩
def ajm (q:Qy)(L:QL)(CA:Option Addr)(cc:Nat)(cols:List aW)(B:Nat):Nat->World->Value->Prop
 | 0,_,v=>v=.agg #[.slice L.i.A L.i.n L.i.c,.string q.bS,.bool q.only,.slice L.w.A L.w.n L.w.c,.slice L.g.A L.g.n L.g.c,.slice L.h.A L.h.n L.h.c,.slice L.o.A L.o.n L.o.c,.slice L.l.A L.l.n L.l.c]
 | 1,_,v=>v=.slice CA cols.length cc
 | 2,_,v=>v=.agg #[.slice L.i.A L.i.n L.i.c,.string q.bS,.bool q.only,.slice L.w.A L.w.n L.w.c,.slice L.g.A L.g.n L.g.c,.slice L.h.A L.h.n L.h.c,.slice L.o.A L.o.n L.o.c,.slice L.l.A L.l.n L.l.c]
 | 3,_,v=>v=.bool q.aK
 | 4,_,v=>v=.slice CA cols.length cc
 | 5,w,v=>∃hv:Value,v=hv/\aF aS 113 2 w B hv cols
 | 6,w,v=>∃hv:Value,v=.agg #[.slice L.i.A L.i.n L.i.c,.string q.bS,.bool q.only,.slice L.w.A L.w.n L.w.c,.slice L.g.A L.g.n L.g.c,.slice L.h.A L.h.n L.h.c,.slice L.o.A L.o.n L.o.c,.slice L.l.A L.l.n L.l.c,.slice CA cols.length cc,az,az,.bool q.aK,hv,az,az,az]/\aF aS 113 2 w B hv cols
 | 7,w,v=>∃g:Nat,v=aw g/\PlB B q L CA cc cols w g
 | _,_,_=>False
theorem QX (q:Qy)(L:QL)(CA:Option Addr)(cc:Nat)(cols:List aW)(B:Nat):∀i w w' v,ajm q L CA cc cols B i w v->ai w w'->ajm q L CA cc cols B i w' v:=by
 intro i w w' v h hl
 match i with
 | 0 | 1 | 2 | 3 | 4=>exact h
 | 5=>exact Zf1
 | 6=>exact Zf1
 | 7=>exact Zf1
 | n+8=>exact h
theorem zct.Kas(h:p:=by exact Zgc):p:=h
theorem zcu.Kas(h:p:=by exact Zgc):p:=h
theorem adY (q:Qy)(L:QL)(CA:Option Addr)(cc:Nat)(cols:List aW)(g2:Nat)(T:Array Value)(hT:T.size=252)(h1:T.getD 1 undef=.slice CA cols.length cc)(h2:T.getD 2 undef=aw g2)(w:World)(Q:Exit->Act->World->Prop)
  (EO:nQ w q L) (aZ:q.Ok) (hrc:RC w w.heap.size CA cols) (cf:cols.length<=1000) (hb2:aB w g2 27 (eI q L))
  (Kx:∀gp W z31 z32 z33 z34 z35 z36 z37 z38,PlB w.heap.size q L CA cc cols W gp->aj w W->(fA bJ 2).wp Tryz.prog Q { tmps:=(((((((((T.setIfInBounds 31 z31).setIfInBounds 32 z32).setIfInBounds 33 z33).setIfInBounds 34 z34).setIfInBounds 35 z35).setIfInBounds 36 z36).setIfInBounds 37 z37).setIfInBounds 38 z38).setIfInBounds 6 (aw gp)),defers:=[] } W):
  (fA bJ 1).wp Tryz.prog Q { tmps:=T,defers:=[] } w:=by
 obtain⟨f,rfl⟩:=kP T hT;have h1:f 1=_:=h1;have h2:f 2=_:=h2;simp only[bS,Uac] at Kx;simp only[bS,h1,h2] at Kx ⊢;clear h1 h2;clear h1 h2 hT;have Tw:=aa EO;have ia:=aa aZ;have HRC:=aa hrc;have VE:=aa cf;have Gn:=aa hb2;unfold eI at Gn;simp only[bJ,fA,Tryz.f28,Option.getD_some] at Kx ⊢;have KK:=aa Kx;clear Kx EO aZ hrc cf hb2;obtain⟨B,hO⟩:∃B,B=w.heap.size:=⟨_,rfl⟩;have HO:=aa hO;clear hO;refine wp_seq_k λ K hK=>?_
 have DM:=aa hK;clear hK;refine bA 8 (ajm q L CA cc cols B) (QX _ _ _ _ _ _) Va Va Va ?_ ?_
 ·simp only[take_succ_cons,take_zero];refine⟨?_,Z1,?_,?_,Z1,?_,?_,?_,trivial⟩
  ·intro ρ w3 hc hL hr;have h0:_=_:=hr.1;have cJ:=Gn.ae.later hL;open zct in exact ZaX
  ·intro ρ w3 hc hL hr;have h0:_=_:=hr.1;have cJ:=Gn.ae.later hL;open zcu in exact ZaX
  ·intro ρ w3 hc hL hr;have h0:_=_:=hr.1;have e1:=hc.func 54;refine bu (f:=54) (args:= #[mM q L]) (w':=w3) (by unfold mM;simp[go_sem,e1,h0];done) ?_;refine(KU q L w3 (Tw.ae.later hL) ia.ae).mono ?_;exact Zbg
  ·intro ρ w3 hc hL hr;have h0:_=_:=hr.1;have e1:=hc.func 55;refine bu (f:=55) (args:= #[.slice CA cols.length cc]) (w':=w3) TaA ?_;refine(IY CA cc cols w3 (HRC.ae.later hL) VE.ae).mono ?_;rintro e4 w4 ⟨v4,rfl,ho4,b4⟩;exact⟨_,rfl,b4,_,rfl,Du ho4 (HO.ae▸hL.size)⟩
  ·intro ρ w3 hc hL hr;have h0:_=_:=hr.1;have h1:_=_:=hr.2.1;have h2:_=_:=hr.2.2.1;obtain⟨hv3,h3,aqf⟩:∃hv:Value,ρ (.tmp 36)=hv/\aF aS 113 2 w3 B hv cols:=hr.2.2.2.1;obtain⟨HA,hc9,hh,_⟩:=aqf.reads;subst hh;exact aq (v:=.agg #[.slice L.i.A L.i.n L.i.c,.string q.bS,.bool q.only,.slice L.w.A L.w.n L.w.c,.slice L.g.A L.g.n L.g.c,.slice L.h.A L.h.n L.h.c,.slice L.o.A L.o.n L.o.c,.slice L.l.A L.l.n L.l.c,.slice CA cols.length cc,az,az,.bool q.aK,(Value.slice HA cols.length hc9),az,az,az]) (w':=w3) (by simp[go_sem,h0,h1,h2,h3];done) ⟨ai.refl _,_,rfl,aqf⟩
  ·intro ρ w3 hc hL hr;obtain⟨hv0,h0,fQ⟩:∃hv:Value,ρ (.tmp 37)=.agg #[.slice L.i.A L.i.n L.i.c,.string q.bS,.bool q.only,.slice L.w.A L.w.n L.w.c,.slice L.g.A L.g.n L.g.c,.slice L.h.A L.h.n L.h.c,.slice L.o.A L.o.n L.o.c,.slice L.l.A L.l.n L.l.c,.slice CA cols.length cc,az,az,.bool q.aK,hv,az,az,az]/\aF aS 113 2 w3 B hv cols:=hr.1;refine aq (v:=aw w3.heap.size) (w':=w3.alloc (.cells #[.slice L.i.A L.i.n L.i.c,.string q.bS,.bool q.only,.slice L.w.A L.w.n L.w.c,.slice L.g.A L.g.n L.g.c,.slice L.h.A L.h.n L.h.c,.slice L.o.A L.o.n L.o.c,.slice L.l.A L.l.n L.l.c,.slice CA cols.length cc,az,az,.bool q.aK,hv0,az,az,az] 81)) Taq ⟨ah w3 _,_,rfl,?_⟩;exact⟨hv0,aB.new w3 _ _,fQ.later (ah w3 _),λ e=>(by have:=(fQ.lt e).1;omega),HO.ae▸hL.size⟩
 intro W3 hL;simp only[Uab];rintro a0 - a1 - a2 - a3 - a4 - a5 - a6 - a7 ⟨g_7,rfl,Vy⟩;simp only[bD,Act.put,Uac];have avR:=aa hL;have qm:=aa Vy;clear Vy hL;go_wp2_with fail;have hp:=qm.ae;rw[HO.ae] at hp;exact DM.ae _ _ (KK.ae _ _ _ _ _ _ _ _ _ _ hp avR.ae)
theorem S9 (q:Qy)(L:QL)(T:Array Value)(hT:T.size=252)(h0:T.getD 0 undef=mM q L)(w:World)(Q:Exit->Act->World->Prop)
  (hO:∀W g2 g4 g5 z2 z4 z5,z2=aw g2->z4=aw g4->z5=aw g5->aB W g2 27 (eI q L)->aB W g4 72 #[.pointer none]->aB W g5 34 #[af 0]->aj w W->w.heap.size<=g2/\g2 < g4/\g4 < g5->(fA bJ 1).wp Tryz.prog Q { tmps:=((T.setIfInBounds 2 z2).setIfInBounds 4 z4).setIfInBounds 5 z5,defers:=[] } W):
  bJ.wp Tryz.prog Q { tmps:=T,defers:=[] } w:=by
 obtain⟨f,rfl⟩:=kP T hT;have h0:f 0=_:=h0;have bb:=ah w (.cells (eI q L) 27);have HX:=aB.new w 27 (eI q L);obtain⟨W1,hW1⟩:∃W1,W1=w.alloc (.cells (eI q L) 27):=⟨_,rfl⟩;have s1:W1.heap.size=w.heap.size+1:=by rw[hW1,World.size_alloc]
 rw[<- hW1] at bb HX;have hL:=ah W1 (.cells #[.pointer none] 72);have k4:=aB.new W1 72 #[.pointer none];obtain⟨W2,hW2⟩:∃W2,W2=W1.alloc (.cells #[.pointer none] 72):=⟨_,rfl⟩;have s2:W2.heap.size=W1.heap.size+1:=by rw[hW2,World.size_alloc]
 rw[<- hW2] at hL k4;have b3:=ah W2 (.cells #[af 0] 34);have k5:=aB.new W2 34 #[af 0];have dT:=hO _ w.heap.size W1.heap.size W2.heap.size _ _ _ rfl rfl rfl ((HX.later hL).later b3) (k4.later b3) k5 (Below.trans (Below.trans bb (hL.mono WC)) (b3.mono WC)) ⟨Nat.le_refl _,by omega,by omega⟩;simp only[bS,Uac] at dT;simp only[bS,h0] at dT ⊢;subst hW2;subst hW1;clear h0 hO s1 s2 bb hL b3 HX k4 k5;clear h0 hT;simp only[World.size_alloc] at dT;unfold eI mM at*;simp only[bJ,fA,Tryz.f28,Option.getD_some] at dT ⊢;refine wp_seq_k λ K hK=>?_
 have HK:=aa hK;have FU:=aa dT;clear hK dT;go_wp2_with fail;exact HK.ae _ _ FU.ae
def yq (q:Qy)(L:QL)(CA:Option Addr)(cc:Nat)(cols:List aW):PC:=⟨.slice L.i.A L.i.n L.i.c,.string q.bS,.bool q.only,.slice L.w.A L.w.n L.w.c,.slice L.h.A L.h.n L.h.c,.slice L.o.A L.o.n L.o.c,.slice L.l.A L.l.n L.l.c,L.g.A,L.g.n,L.g.c,CA,cc,q.aK,q.aL,cols⟩
def kQ:Value:=az
variable{w0 W:World}{gp g2 g4 g5 D:Nat}{hv:Value}
theorem T7{w:World}  (hb:aj w0 w)(hB0:w0.heap.size<=B)(hblk:aB w gp 81 ((yq q L CA cc cols).cells ⟨hv,kQ,kQ,kQ⟩ kQ kQ))(ho:aF aS 113 2 w B hv cols)(hg:hv.ownBlock≠some gp)(hBg:B<=gp)
  (k2:aB w g2 27 (eI q L)) (k4:aB w g4 72 #[.pointer none]) (k5:aB w g5 34 #[af 0]) (l2:g2 < B) (l4:g4 < B) (l5:g5 < B) (m4:w0.heap.size<=g4) (m5:w0.heap.size<=g5) (Ar:g4≠g5)
  (hW:aj w W) (hD:w.heap.size<=D) (hd:W.heap[D]?=some (.deferred (some []))):
  cP (yq q L CA cc cols) w0 gp g2 (eI q L) g4 g5 D ⟨hv,kQ,kQ,kQ⟩ W kQ kQ [] ⟨[],[]⟩ cols [] [] [] [] [] []:=by
 have zT:=hblk.lt;have hs:=hW.size
 have hDl:D < W.heap.size:=by
  rcases Nat.lt_or_ge D W.heap.size with h | h
  ·exact h
  ·rw[Array.getElem?_eq_none h] at hd;cases hd
 have hown:∀i < 6,∀b,(PR kQ kQ ⟨hv,kQ,kQ,kQ⟩ i).ownBlock=some b->i=2/\B<=b/\b < w.heap.size/\b≠gp:=λ i hi b hb=>by
  match i with
  | 0 | 1 | 3 | 4=>cases hb
  | 2=>have hb:hv.ownBlock=some b:=hb;exact⟨rfl,(ho.lt hb).2.1,(ho.lt hb).1,λ e=>hg (by rw[hb,e])⟩
  | n+5=>cases hb
 have kp:∀b,b < W.heap.size->b≠gp->(b < B\/w.heap.size<=b)->sS W gp (PR kQ kQ ⟨hv,kQ,kQ,kQ⟩) b:=λ b h1 h2 h3=>⟨h1,h2,λ i hi e=>by
  obtain⟨_,h4,h5,_⟩:=hown i hi b e
  omega⟩
 have n2:=k2.lt;have n4:=k4.lt;have n5:=k5.lt;refine⟨⟨by omega,by omega,Below.trans hb (hW.mono hb.size),λ i hi b e=>?_,λ i hi j hj nL b e1 e2=>nL ((hown i hi b e1).1.trans (hown j hj b e2).1.symm),kp g2 WC WC (.inl l2),kp g4 WC WC (.inl l4),kp g5 WC WC (.inl l5),kp D hDl WC (.inr hD),⟨m4,m5,Ar,by omega,by omega⟩,hd,k2.later hW,k4.later hW,k5.later hW⟩,hblk.later hW,od,od,Du (ho.later hW) hB0,od,od,od,?_,?_,?_,?_⟩
 ·obtain⟨_,h4,h5,h6⟩:=hown i hi b e;exact⟨by omega,by omega,h6⟩
 all_goals (unfold Tr.aO;rfl)
def T8 (c:PC)(w0:World)(q:Qy)(L:QL)(e:Ending)(W:World):Prop:=
 (∃er,(jL q/\er=1\/¬jL q/\rS c.aK c.aL c.cols q=.error er)/\er≠0/\e=.returned (.tuple #[.pointer none,af er])/\aj w0 W)\/
 (∃gp g2 g4 g5 D r W1 u v ya s hd yi yh yo ti th eF,¬jL q/\rS c.aK c.aL c.cols q=.ok (ti,hd,th,eF,s)/\e=.returned (.tuple #[aw gp,af 0])/\w0.heap.size<=D/\cP c w0 gp g2 (eI q L) g4 g5 D r W1 u v ya s ((if q.items=[] then c.cols else [])++hd) yi yh yo ti th eF/\W=(ju W1 g4 g5 gp).putObj D (.deferred none))
variable{T:Array Value}{a b:Value}
theorem AE(h4:T.getD 4 undef=aw g4)(h5:T.getD 5 undef=aw g5)(c4:W.cell? ⟨g4,0,none⟩=some a)(c5:W.cell? ⟨g5,0,none⟩=some b):(results Tryz.f28 T).run Tryz.prog W=.ok (.tuple #[a,b]) W:=by
 have e4:T[4]?.getD undef=aw g4:=by rw[<- h4];simp[Array.getD_eq_getD_getElem?]
 have e5:T[5]?.getD undef=aw g5:=by rw[<- h5];simp[Array.getD_eq_getD_getElem?]
 simp[results,Tryz.f28,go_sem,e4,e5,c4,c5]
theorem adZ:Tryz.f28.body=some bJ:=by unfold bJ;simp only[Tryz.f28,Option.getD_some]
theorem aea (a b:Value):(#[a,b]++Array.replicate (Tryz.f28.ntmps - (#[a,b]:Array Value).size) undef).size=252:=by simp[Tryz.f28]
variable{er:Int}
theorem GU(b4:aB W g4 72 #[.pointer none])(b5:aB W g5 34 #[af 0])(h:g4≠g5):(jk W g4 g5 er).cell? ⟨g4,0,none⟩=some (.pointer none)/\(jk W g4 g5 er).cell? ⟨g5,0,none⟩=some (af er):=
 ⟨(((b4.aU 0 (.pointer none)).far (p:=⟨g5,0,none⟩) h (af er)).cell 0),((b5.far (p:=⟨g4,0,none⟩) (Ne.symm h) (.pointer none)).aU 0 (af er)).cell 0⟩
theorem T9(b4:aB W g4 72 #[.pointer none])(b5:aB W g5 34 #[af 0])(h:g4≠g5):(ju W g4 g5 gp).cell? ⟨g4,0,none⟩=some (aw gp)/\(ju W g4 g5 gp).cell? ⟨g5,0,none⟩=some (af 0):=
 ⟨(((b4.aU 0 (aw gp)).far (p:=⟨g5,0,none⟩) h (af 0)).cell 0),((b5.far (p:=⟨g4,0,none⟩) (Ne.symm h) (aw gp)).aU 0 (af 0)).cell 0⟩
variable{ob ob':Obj}
theorem lH(h:W.heap[D]?=some ob)(hc:ob.isCells=false) {p:Addr} (hv:W.cell? p=some v):(W.putObj D ob').cell? p=some v:=(Fr.putObj W D ob ob' h hc).cell p v hv
theorem uL{w:World}  (h:Below B w W)(hD:B<=D):Below B w (W.putObj D ob'):=
 ⟨h.os,h.tape,h.output,by simpa using h.size,λ k hk=>(World.putObj_heap_other WC).trans (h.block k hk)⟩
theorem zhb.KbU(h:p:=by refine⟨by simp,.inl ⟨_,_,rfl,run_takeDeferred hK,?_⟩⟩;exact⟨_,AE r4 r5 (lH hK rfl c4) (lH hK rfl c5),.inr ⟨gp,g2,g4,g5,D,r',W,u',v',qf,s',uV,yi,yh,yo,ti,th,eF,UJ,he,rfl,hDl,hp,rfl⟩⟩):p:=h
theorem zir.Kcr(h:p:=by
 clear JV;have HRC:=hq.ok.cols;refine S9 q L T hT t0 w0 _ ?_;intro Wa g2 g4 g5 x2 x4 x5 e2 e4 e5 k2 k4 k5 hba hg;have HBa:aj w0 Wa:=hba;have t0':T[0]?.getD undef=mM q L:=by rw[<- t0];simp[Array.getD_eq_getD_getElem?]
 have t1':T[1]?.getD undef=.slice CA cols.length cc:=by rw[<- t1];simp[Array.getD_eq_getD_getElem?]
 have aqg:T[1]'(by rw[hT];decide)=.slice CA cols.length cc:=by have h:=t1';rw[Array.getElem?_eq_getElem (by rw[hT];decide)] at h;exact h
 refine adY q L CA cc cols g2 _ TaE ?_ ?_ Wa _ (EO.later hba) aZ (HRC.later hba) cf k2 ?_
 ·exact ZgF
 ·exact ZeV
 intro gp Wb z31 z32 z33 z34 z35 z36 z37 z38 hpl kz;obtain⟨hv,p1,p2,p3,p4⟩:=hpl;have q2:=k2.later kz;have q4:=k4.later kz;have q5:=k5.later kz;have hB:=Below.trans hba (kz.mono hba.size);refine adW g2 g2 g4 g5 gp q L _ TaE ZeV Zg0 Zg1 Wb _ EO.w.n EO.h.n EO.l.1 ((EO.later hB).l.2) q2 q4 q5 WC ?_ ?_
 ·rintro⟨ta,da⟩ jV ⟨rfl,r4,r5⟩;obtain⟨c4,c5⟩:=GU (er:=1) q4 q5 WC;refine⟨_,AE r4 r5 c4 c5,.inl ⟨1,.inl ⟨jV,rfl⟩,by decide,rfl,(hB.setCell (p:=⟨g4,0,none⟩) (show w0.heap.size<=g4 by omega) _).setCell (p:=⟨g5,0,none⟩) (show w0.heap.size<=g5 by omega) _⟩⟩
 ·intro UJ y39 y40 y41 y42 y43 y44 y45 y46 y47 y48 y49 y50 y51 y52 y53 y54 y55 y56 y57 y58 y59 y60 y61 y62 y63 y64 y65 y66 y67;refine adV (yq q L CA cc cols) w0 gp g2 g4 g5 q L ⟨hv,kQ,kQ,kQ⟩ kQ kQ cols _ TaE ?_ ?_ ?_ ?_ ?_ Wb _ hq ?_ hB q2 q4 q5 WC WC WC ?_ ?_ ?_
  ·exact ZgF
  ·exact ZeV
  ·exact Zg0
  ·exact Zg1
  ·simp[Array.getD_eq_getD_getElem?,Array.getElem?_setIfInBounds,hT]
  ·intro W D hW hD hd;exact T7 hB hba.size p1 p2 p3 p4 q2 q4 q5 k2.lt k4.lt k5.lt WC WC WC hW hD hd
  ·rintro D ⟨ta,da⟩ W hDl aqh ⟨rfl,r4,r5⟩ ⟨d1,d2,d3⟩ hK;refine⟨by simp,.inl ⟨_,_,rfl,run_takeDeferred hK,?_⟩⟩;refine⟨_,AE r4 r5 (lH hK rfl (d2.cell 0)) (lH hK rfl (d3.cell 0)),.inl ⟨1,.inr ⟨UJ,if_pos aqh⟩,by decide,rfl,uL d1 hDl⟩⟩
  ·rintro D er ⟨ta,da⟩ W hDl he hne ⟨rfl,r4,r5⟩ ⟨w1,w2,w3,w4,w5,w6,w7,w8,w9⟩;obtain⟨c4,c5⟩:=GU (er:=er) w7 w8 w4;have hK:(jk W g4 g5 er).heap[D]?=some (.deferred (some [])):=by unfold jk;rw[Below.heap_setCell _ ⟨g5,0,none⟩ _ D (Ne.symm w6),Below.heap_setCell _ ⟨g4,0,none⟩ _ D (Ne.symm w5)];exact w9
   refine⟨by simp,.inl ⟨_,_,rfl,run_takeDeferred hK,?_⟩⟩;refine⟨_,AE r4 r5 (lH hK rfl c4) (lH hK rfl c5),.inl ⟨er,.inr ⟨UJ,he⟩,hne,rfl,uL ((w1.setCell (p:=⟨g4,0,none⟩) w2 _).setCell (p:=⟨g5,0,none⟩) w3 _) hDl⟩⟩
  ·rintro D ⟨ta,da⟩ W r' u' v' qf s' uV yi yh yo ti th eF hDl he ⟨rfl,r4,r5⟩ hp;have hf:=hp.f;obtain⟨c4,c5⟩:=T9 (gp:=gp) hf.z4 hf.z5 hf.new.2.2.1;open zhb in exact Ze1):p:=h
theorem MU (q:Qy)(L:QL)(CA:Option Addr)(cc:Nat)(cols:List aW)(w0:World)(EO:nQ w0 q L)(aZ:q.Ok)(cf:cols.length<=1000)(hq:Ae (yq q L CA cc cols) w0 q L cols):
  ar 28 #[mM q L,.slice CA cols.length cc] w0 (T8 (yq q L CA cc cols) w0 q L):=by
 refine(callsIn_wide (n:=4)).1 ?_;refine callsIn_of_wp_marks (c:=bJ) Tryz.func28 adZ trivial ?_ rfl;refine wpIn_wide.2 ?_;obtain⟨T,JV⟩:∃T:Array Value,T= #[mM q L,.slice CA cols.length cc]++Array.replicate (Tryz.f28.ntmps - (#[mM q L,.slice CA cols.length cc]:Array Value).size) undef:=⟨_,rfl⟩;rw[<- JV];have hT:T.size=252:=by rw[JV];exact aea _ _
 open zir in exact Zht
theorem U0(cols:List aW)(h:jL q):dn q cols=.error 1:=by unfold dn;exact if_pos h
theorem GV(cols:List aW)(h:¬jL q):dn q cols=match rS q.aK q.aL cols q with
  | .error e=> .error e
  | .ok (is,hd,hs,os,s)=> .ok ⟨q.aK,if q.items=[] then cols else hd,s,is,hs,os⟩:=by
 unfold dn rS;rw[if_neg (show¬(1 < q.bT.length\/1 < q.fq.length\/1 < q.lim.length\/(q.lim.length=1/\q.lim.getD 0 0 < 0))from h)];by_cases hd:(q.all.any λ t=>decide (32 < t.depth))=true
 ·rw[if_pos hd,if_pos hd]
 ·rw[if_neg hd,if_neg hd];unfold wO
  cases oX cols q.bT with
  | error e=>rfl
  | ok u=>
    dsimp only;unfold wN
    cases kI cols q.aL 0 with
    | error e=>rfl
    | ok gc=>
      dsimp only;unfold zk;by_cases hi:q.items=[]/\q.aK=true
      ·rw[if_pos hi,if_pos hi]
      ·rw[if_neg hi,if_neg hi];unfold wM
       cases dm q.aK q.aL cols q.items ⟨[],gc⟩with
       | error e=>rfl
       | ok p=>
         obtain⟨is,hd,s1⟩:=p;dsimp only;unfold GR
         cases dA q.aK q.aL cols q.fq s1 with
         | error e=>rfl
         | ok p=>
           obtain⟨hs,s2⟩:=p;dsimp only
           cases eu q.aK q.aL cols q.ord s2 with
           | error e=>rfl
           | ok p=>rfl
variable{aL is:List Tr}{hd:List aW}{hs os:List Tr}{s:dy}
theorem WE{g:Bool}      (hi:q.items=[])(h:rS g aL cols q=.ok (is,hd,hs,os,s)):hd=[]:=by
 unfold rS at h;split at h
 ·cases h
 ·unfold wO at h;split at h
  ·cases h
  ·unfold wN at h;split at h
   ·cases h
   ·unfold zk at h;split at h
    ·cases h
    ·unfold wM at h;rw[hi] at h;unfold dm at h;dsimp only at h;split at h
     ·cases h
     ·injection h with h;injection h with _ h;injection h with h _;exact h.symm
mutual
theorem Tr.at_.ex {w w':World} {S S':Nat->Prop}(hE:∀b off x,cw w b off x->cw w' b off x)(hS:∀b,S b->S' b):∀(t:Tr) (y:Ex),t.at_ w S y->t.at_ w' S' y
 | .mk op v name width args,y,h=>by
   unfold Tr.at_ at h ⊢;obtain⟨h1,h2,h3,h4,h5,ys,h6,h7⟩:=h;refine⟨h1,h2,h3,h4,h5,ys,?_,Tr.aO.ex hE hS args ys h7⟩;rcases h6 with h6 |⟨b,off,k1,k2,k3⟩
   ·exact .inl h6
   ·exact .inr ⟨b,off,k1,hS b k2,λ i x hx=>hE _ _ _ (k3 i x hx)⟩
theorem Tr.aO.ex {w w':World} {S S':Nat->Prop}(hE:∀b off x,cw w b off x->cw w' b off x)(hS:∀b,S b->S' b):∀(ts:List Tr) (ys:List Ex),Tr.aO w S ts ys->Tr.aO w' S' ts ys
 | [],ys,h=>by unfold Tr.aO at h ⊢;exact h
 | t::ts,ys,h=>by unfold Tr.aO at h ⊢;obtain⟨y,ys',h1,h2,h3⟩:=h;exact⟨y,ys',h1,Tr.at_.ex hE hS t y h2,Tr.aO.ex hE hS ts ys' h3⟩
end
variable{off:Nat}{t:TypeId}
theorem U1{w:World} {g:Nat}   {x:Ex}(hb:aB w g t #[a])(h:cw w g off x):False:=by unfold cw at h;have h1:=h.2.1;rw[hb.cell] at h1;simp at h1
theorem U2{w:World} {g:Nat}  (hb:aB w g t #[a])(b off:Nat)(x:Ex)(h:cw w b off x):cw (w.setCell ⟨g,0,none⟩ v) b off x:=by
 have hne:b≠g:=λ e=>by subst e;exact U1 hb h
 exact h.keep λ o=>bH (Below.heap_setCell w ⟨g,0,none⟩ v b hne) o
theorem WG(b4:aB W g4 72 #[.pointer none])(b5:aB W g5 34 #[af 0])(h:g4≠g5)(hD:(ju W g4 g5 gp).heap[D]?=some (.deferred (some [])))(b off:Nat)(x:Ex)(hx:cw W b off x):cw ((ju W g4 g5 gp).putObj D (.deferred none)) b off x:=
 (U2 (b5.far (p:=⟨g4,0,none⟩) (Ne.symm h) (aw gp)) b off x (U2 b4 b off x hx)).fr (Fr.putObj _ D _ _ hD rfl)
structure agd (c:PC) (w0 W:World) (gp:Nat) (r:Rest) (u v:Value) (ya yi yh yo:List Ex) (p:ib):Prop where
 base:aj w0 W
 low:w0.heap.size<=gp
 blk:aB W gp 81 (c.cells r u v)
 o0:aF bF 46 7 W w0.heap.size u ya
 o1:aF aS 113 2 W w0.heap.size v p.st.aL
 o2:aF aS 113 2 W w0.heap.size r.h p.head
 o3:aF bF 46 7 W w0.heap.size r.i yi
 o4:aF bF 46 7 W w0.heap.size r.j yh
 o5:aF bF 46 7 W w0.heap.size r.o yo
 aJ:Tr.aO w0 (Old w0) p.st.aJ ya
 t3:Tr.aO W (Old W) p.items yi
 t4:Tr.aO W (Old W) p.having yh
 t5:Tr.aO W (Old W) p.order yo
def Dv (q:Qy)(L:QL)(CA:Option Addr)(cc:Nat)(cols:List aW)(w0:World)(e:Ending)(W:World):Prop:=
 match dn q cols with
 | .error er=>er≠0/\e=.returned (.tuple #[.pointer none,af er])/\aj w0 W
 | .ok p=>∃gp r u v ya yi yh yo,e=.returned (.tuple #[aw gp,af 0])/\agd (yq q L CA cc cols) w0 W gp r u v ya yi yh yo p
theorem zhc.KbU(h:p:=by
 have hs:Kx.heap.size=W.heap.size:=by rw[hW];simp[ju]
 have age:∀b,b≠g4->b≠g5->b≠D->Kx.heap[b]?=W.heap[b]?:=λ b a1 a2 a3=>by rw[hW,World.putObj_heap_other a3];unfold ju;rw[Below.heap_setCell _ ⟨g5,0,none⟩ _ b a2,Below.heap_setCell _ ⟨g4,0,none⟩ _ b a1]
 have hex:=λ b off x=>hW▸WG (gp:=gp) hf.z4 hf.z5 hf.new.2.2.1 hK b off x
 have hS:∀b,sS W gp (PR u v r) b->Old Kx b:=λ b hb=>by show b < Kx.heap.size;rw[hs];exact hb.1
 have hrow:∀ {α:Type} {f:α->List Value} {t:TypeId} {size:Nat} {l:List α} (i:Nat),i < 6->aF f t size W w0.heap.size (PR u v r i) l->aF f t size Kx w0.heap.size (PR u v r i) l:=λ i hi ho=>ho.keep λ g hg=>age g (λ e=>hf.k4.2.2 i hi (e▸hg)) (λ e=>hf.k5.2.2 i hi (e▸hg)) (λ e=>hf.kD.2.2 i hi (e▸hg))
 refine⟨gp,r,u,v,ya,yi,yh,yo,he,⟨?_,hf.low,(age gp (Ne.symm hf.k4.2.1) (Ne.symm hf.k5.2.1) (Ne.symm hf.kD.2.1)).trans hp.blk,hrow 0 WC hp.o0,hrow 1 WC hp.o1,hrow 2 WC (Sm▸hp.o2),hrow 3 WC hp.o3,hrow 4 WC hp.o4,hrow 5 WC hp.o5,hp.aJ,Tr.aO.ex hex hS _ _ hp.t3,Tr.aO.ex hex hS _ _ hp.t4,Tr.aO.ex hex hS _ _ hp.t5⟩⟩;rw[hW];exact uL ((hf.base.setCell (p:=⟨g4,0,none⟩) hf.new.1 _).setCell (p:=⟨g5,0,none⟩) hf.new.2.1 _) hDl):p:=h
theorem Dw (q:Qy)(L:QL)(CA:Option Addr)(cc:Nat)(cols:List aW)(w0:World)(EO:nQ w0 q L)(aZ:q.Ok)(cf:cols.length<=1000)(hq:Ae (yq q L CA cc cols) w0 q L cols):
  ar 28 #[mM q L,.slice CA cols.length cc] w0 (Dv q L CA cc cols w0):=by
 refine(MU q L CA cc cols w0 EO aZ cf hq).mono ?_;rintro e Kx (⟨er,h1,h2,h3,h4⟩|⟨gp,g2,g4,g5,D,r,W,u,v,ya,s,hd,yi,yh,yo,ti,th,eF,hn,hr,he,hDl,hp,hW⟩)
 ·have hx:dn q cols=.error er:=by
   rcases h1 with ⟨hb,rfl⟩|⟨hb,hr⟩
   ·exact U0 cols hb
   ·have hr:rS q.aK q.aL cols q=.error er:=hr;rw[GV cols hb,hr]
  unfold Dv;rw[hx];exact⟨h2,h3,h4⟩
 ·have hr:rS q.aK q.aL cols q=.ok (ti,hd,th,eF,s):=hr;have hx:dn q cols=.ok ⟨q.aK,if q.items=[] then cols else hd,s,ti,th,eF⟩:=by rw[GV cols hn,hr]
  have Sm:((if q.items=[] then cols else [])++hd)=(if q.items=[] then cols else hd):=by
   by_cases hi:q.items=[]
   ·rw[if_pos hi,if_pos hi,WE hi hr,append_nil]
   ·rw[if_neg hi,if_neg hi,nil_append]
  unfold Dv;rw[hx];have hf:=hp.f;open zhc in exact Ze1
theorem Ae.later{w:World}(h:Ae (yq q L CA cc cols) w q L hd)(hb:aj w w'):Ae (yq q L CA cc cols) w' q L hd:=
 ⟨⟨h.ok.env.later hb,h.ok.aL.later hb,h.ok.gok,h.ok.gl,h.ok.cols.later hb,h.ok.cl⟩,h.qw,h.iw.later hb,h.nw,h.qg,h.ig.later hb,h.ng,h.qi,h.ii.later hb,h.ni,h.nh,h.qh,h.ih.later hb,h.nhv,h.qo,h.io.later hb,h.no,h.len⟩
def AG (q:Qy)(cols:List aW)(w0:World)(e:Ending)(W:World):Prop:=
 aj w0 W/\match dn q cols with
 | .error er=>er≠0/\e=.returned (.tuple #[az,af er])
 | .ok p=>∃hv,e=.returned (.tuple #[hv,af 0])/\aF aS 113 2 W w0.heap.size hv p.head
theorem zcv.Kas(h:p:=by
 clear cJ;unfold eI mM at HC;unfold eI at eB;unfold mM;go_enter Tryz.func15,Tryz.ntmps15;go_upto_region 1 with fail;generalize w0.alloc _=W1 at*;go_wp2_with fail;clear c0 c1 c2 y3 c4 c5 c6 c7;refine HC.ae.mono ?_;intro e W hp;unfold Dv at hp;unfold AG
 cases hx:dn q cols with
 | error er=>
   rw[hx] at hp;obtain⟨h1,rfl,h3⟩:=hp;have t1:(er != 0)=true:=by simp[h1]
   have H1:=aa h1;have HX:=aa hx;clear h1 hx;go_wp2_with fail;refine bodyPost_ret (v:=.tuple #[az,af er]) Tbb rfl ?_;unfold AG;rw[HX.ae];exact⟨Below.trans eB.ae (h3.mono eB.ae.size),H1.ae,rfl⟩
 | ok p=>rw[hx] at hp;obtain⟨gp,r,u,v,ya,yi,yh,yo,rfl,hpl⟩:=hp;have JR:=aa hpl;have hb:=hpl.blk;unfold PC.cells at hb;have c12:=hb.cell 12;simp only[Uaa] at c12;obtain⟨HA,hc,hh,_⟩:=hpl.o2.reads;rw[hh] at c12;have HX:=aa hx;clear hb hpl hx;go_wp2_with fail;refine bodyPost_ret (v:=.tuple #[.slice HA p.head.length hc,af 0]) Tbb rfl ?_;unfold AG;rw[HX.ae];exact⟨Below.trans eB.ae (JR.ae.base.mono eB.ae.size),_,rfl,Du (hh▸JR.ae.o2) eB.ae.size⟩):p:=h
theorem WH (q:Qy)(L:QL)(CA:Option Addr)(cc:Nat)(cols:List aW)(w0:World)(EO:nQ w0 q L)(aZ:q.Ok)(cf:cols.length<=1000)(hq:Ae (yq q L CA cc cols) w0 q L cols):
  ar 15 #[mM q L,.slice CA cols.length cc] w0 (AG q cols w0):=by have b1:=ah w0 (.cells (eI q L) 27);have cJ:=aB.new w0 27 (eI q L);have HC:=aa (Dw q L CA cc cols (w0.alloc (.cells (eI q L) 27)) (EO.later b1) aZ cf (hq.later b1));have eB:=aa b1;clear EO aZ cf hq b1;unfold eI at cJ;open zcv in exact ZaX
def ajn (gb:Nat)(le:Int):Nat->World->Value->Prop
 | 0,_,v=>v=aw gb
 | 1,_,v=>v=af le
 | 2,_,v=>v=az
 | 3,_,v=>v=af le
 | _,_,_=>False
theorem QY (gb:Nat)(le:Int):∀i w w' v,ajn gb le i w v->ai w w'->ajn gb le i w' v:=by
 intro i w w' v h hl
 match i with
 | 0 | 1 | 2 | 3=>exact h
 | n+4=>exact h
theorem aeb (gb:Nat)(e0:Int)(lv:Value)(T:Array Value)(hT:T.size=164)(h9:T.getD 9 undef=aw gb)(h10:T.getD 10 undef=lv)(d:List Deferred)(w:World)(Q:Exit->Act->World->Prop)(cJ:aB w gb 84 #[af e0])
  (hE:e0≠0->∀a W,a.defers=d->a.tmps.getD 4 undef=az->a.tmps.getD 5 undef=af e0->aj w W->Q .ret a W)
  (hO:e0=0->∀T':Array Value,T'.size=164->T'.getD 9 undef=aw gb->T'.getD 10 undef=lv->(fA gU 8).wp Tryz.prog Q { tmps:=T',defers:=d } w):
  (fA gU 7).wp Tryz.prog Q { tmps:=T,defers:=d } w:=by
 obtain⟨f,rfl⟩:=Jo T hT;have h9:f 9=_:=h9;have h10:f 10=_:=h10;simp only[frg,h9,h10];clear h9 h10;clear h9 h10 hT;have hh:=λ h0 (T':Array Value) a0 a1 a2=>hO h0 T' a0 a1 a2
 simp only[gU,fA,Tryz.f33,Option.getD_some] at hh;have HH:=aa hh;have HE:=aa hE;have Q3:=aa cJ;have cb:=cJ.cell 0;simp only[getElem?_toArray,getElem?_cons_zero] at cb;clear hh hO hE cJ;simp only[gU,fA,Tryz.f33,Option.getD_some];refine wp_seq_k λ K hK=>?_
 have DM:=aa hK;clear hK;by_cases h:e0=0
 ·have t1:(e0 != 0)=false:=by simp[h]
  have H:=aa h;clear h;go_wp2_with fail;exact DM.ae _ _ (HH.ae H.ae _ rfl rfl rfl)
 ·have t1:(e0 != 0)=true:=by simp[h]
  have H:=aa h;clear h;go_upto_region 23 with fail;clear cb;refine bA 4 (ajn gb e0) (QY _ _) Va Va Va ?_ ?_
  ·simp only[take_succ_cons,take_zero];refine⟨Z1,Zbl,Zf4,Z1,trivial⟩
  intro W3 hL;simp only[Uab];rintro _ rfl _ rfl _ rfl _ rfl;simp only[bD,Act.put,Uac];go_wp2_with fail;exact HE.ae H.ae _ _ rfl rfl rfl hL
theorem zgE.KbI(h:p:=by
 have FU:=aa (HK.ae.later bY);have ur:=aa (HRE.ae.later bY).reads;have hb2:=ai.then hb bY
 have hbase:=hb2.size;obtain⟨i0,kR,hg4,ox,HZ⟩:=info_parts fL;have HI:=aa kR;have JT:=aa hg4;have Gn:=aa ox;have qu:=aa HZ;have aDc:=aqi;clear bY hR hex kz hb HK HRE kR hg4 ox HZ;go_wp2_with (first
  |(at_builtin
    refine cN _ rfl (.tmp 35) (.tmp 37) 23 rfl w.heap.size 46 i0 _ 7 88 Tryz.underlying23 HI.ae JT.ae Gn.ae qu.ae rfl WC _ zs.length (zs.flatMap bF) rfl FU.ae _ x.A x.ys.length x.c (x.ys.flatMap bF) rfl ur.ae (PD x.ys) Tam WC hbase ?_
    intro v4 w4 o4 g4 _
    have O4:=aa (show aF bF 46 7 w4 w.heap.size v4 (zs++x.ys) by
     unfold aF
     rw[length_append,flatMap_append]
     exact o4)
    have B4:=aa (bj FU.ae g4 hbase)
    clear o4 g4))
 go_roundw;case rel=>exact⟨k+1,hlt,by go_num,by rw[nt.ae];exact O4.ae,hb2.trans B4.ae⟩
 case measure=>exact Za0):p:=h
theorem zf8.Kbx(h:p:=by
 go_wp2_with fail;clear c9;go_loopw [6,31] (λ av i wr=>∃k:Nat,k<=aL.length/\i=af k/\aF bF 46 7 wr w.heap.size av ((ls.take k).flatMap tI.ys)/\aj w wr) (λ _ i _=>aL.length - (intOf i).toNat);case atStart=>exact ZcE
 case round=>
  obtain⟨k,hk,rfl,hp,hb⟩:=hrel;have HK:=aa hp;clear hp;by_cases hlt:k < aL.length
  ·obtain⟨b,off,rfl,kz,hex⟩:=(IH.ae.ra.below hb).at_ hlt;have hlk:k < ls.length:=by rw[HFN.ae];exact hlt
   have hk9:k<=100000:=by have:=Q5.ae;omega
   obtain⟨e1,e2,e3,CT⟩:=Q3.ae k aL[k] ls[k] (getElem?_eq_getElem hlt) (getElem?_eq_getElem hlk);have nt:=aa (show(ls.take (k+1)).flatMap tI.ys=(ls.take k).flatMap tI.ys++ls[k].ys by rw[take_add_one,getElem?_eq_getElem hlk,flatMap_append];simp)
   have aqi:((ls.take k).flatMap tI.ys).length+ls[k].ys.length<=100000:=by
    have h1:((ls.take (k+1)).flatMap tI.ys).length<=(ls.flatMap tI.ys).length:=by
     have h2:ls.flatMap tI.ys=(ls.take (k+1)).flatMap tI.ys++(ls.drop (k+1)).flatMap tI.ys:=by rw[<- flatMap_append,take_append_drop]
     rw[h2,length_append];omega
    rw[nt.ae,length_append] at h1;have:=Q4.ae;omega
   have HRE:=aa ((CT.below hb).more hb.size);generalize aL[k]=y at*;generalize ls[k]=x at*;generalize (ls.take k).flatMap tI.ys=zs at*;unfold cw at hex;rw[e1,e2,e3] at hex;clear e1 e2 e3 CT hlk;go_upto_region 5 with fail;have bY:=ah wr (.cells #[ag y.op,ag y.v.k,af y.v.n,.string y.v.s,.string y.name,af y.width,.slice x.A x.ys.length x.c] 46);have hR:=aB.new wr 46 #[ag y.op,ag y.v.k,af y.v.n,.string y.v.s,.string y.name,af y.width,.slice x.A x.ys.length x.c];open zgE in exact Zep
  ·have fw:k=aL.length:=by omega
   subst fw;have HAV:=aa (show aF bF 46 7 wr w.heap.size u6 (ls.flatMap tI.ys) by have h1:=HK.ae;rwa [<- HFN.ae,take_length] at h1);clear HK;go_wp2_with fail;refine IL.ae _ _ ?_;clear IL hlt hk;have b1:=ah wr (.cells #[af 0] 84);have k1:=aB.new wr 84 #[af 0];have yK:=aa k1;have ajo:=aa (HAV.ae.later b1);have eB:=aa (Below.trans hb (b1.mono hb.size));have HLT:=aa hb.size;clear b1 k1 HAV hb;refine wp_seq_k λ K0 hK=>?_
   have DM:=aa hK;clear hK;go_wp2_with fail;refine DM.ae _ _ ?_;clear DM;generalize wr.alloc (.cells #[af 0] 84)=W1 at*;generalize wr.heap.size=gb at*;refine wp_seq_k λ K4 hK4=>?_
   have CH:=aa hK4;clear hK4;go_wp2_with fail;refine CH.ae _ _ ?_;clear CH;refine wp_seq_k λ K5 hK5=>?_
   have HK5:=aa hK5;clear hK5;have Pr:=aa (IH.ae.later eB.ae);have c4:=Pr.ae.c4;rw[Q1.ae] at c4;by_cases hg0:gn=0
   ·have t1:((gn:Int)==0)=true:=by simp[hg0]
    have HG0:=aa hg0;clear hg0;go_wp2_with fail;clear c4 t1;refine(Gg gp aL AA ac none 0 0 W1 (by have:=Q5.ae;omega) Pr.ae.lt Pr.ae.c9 Pr.ae.ra oy.ae).mono ?_;rintro e w2 ⟨gg,sv,qs,rfl,eh,IW,hgk,J3,Td,b2⟩;have bN:=ah w2 (.cells #[aw gg] 135);have hNB:=aB.new w2 135 #[aw gg];have M0:=eB.ae.size;have b3:=ai.then b2 bN
    have wW:=aa (show kt (w2.alloc (.cells #[aw gg] 135)) w.heap.size [⟨gg,none,0,[],sv,qs,aL.map λ y=>fh y.op⟩] from kt.later ⟨λ x hx=>by
     rw[mem_singleton] at hx
     subst hx
     exact⟨hgk,Nat.le_trans M0 eh,J3.down M0,Td.down M0,.inl rfl,λ a ha=>by cases ha⟩,pairwise_singleton _ _⟩ bN)
    have avS:=aa (ajo.ae.later b3);have avT:=aa (yK.ae.later b3);have fG:=aa (Below.trans eB.ae (b3.mono M0));have pT:=aa hNB;have hbase:=fG.ae.size;have HIN:=aa (show nZ gn aJ [⟨gg,none,0,[],sv,qs,aL.map λ y=>fh y.op⟩] [] [] from⟨by unfold fo;rw[if_pos HG0.ae];rfl,λ x hx=>by
     rw[mem_singleton] at hx
     subst hx
     show aL.map (λ y=>fh y.op)=_
     rw[Cx (λ p KK=>by cases KK),<- F2.ae,map_map]
     rfl⟩)
    clear bN hNB b2 b3 M0 hgk J3 Td IW eh ajo yK eB Pr;go_wp2_with (first
     |(at_builtin
       refine aT (f:=cZ) (l:=[]) rfl (.tmp 47) (.tmp 50) 134 rfl _ 8 Tryz.underlying134 Co rfl WC gg rfl TaY rfl aF.nil w2.heap.size rfl pT.ae Tac Tac hbase ?_
       intro v4 w4 o4 g4
       have O4:=aa o4
       have B4:=aa (show Below (w2.alloc (.cells #[aw gg] 135)).heap.size _ w4 from py g4)
       clear o4 g4))
    exact HK5.ae _ _ (HF.ae _ u6 _ gb [⟨gg,none,0,[],sv,qs,aL.map λ y=>fh y.op⟩] _ rfl rfl rfl rfl rfl rfl (Below.trans fG.ae (B4.ae.mono hbase)) (avS.ae.later B4.ae) (avT.ae.later B4.ae) HLT.ae O4.ae (wW.ae.later B4.ae) HIN.ae)
   ·have t1:((gn:Int)==0)=false:=by simp[hg0]
    have HG0:=aa hg0;clear hg0;go_wp2_with fail;exact HK5.ae _ _ (HF.ae _ u6 _ gb [] _ rfl rfl rfl rfl rfl rfl eB.ae ajo.ae yK.ae HLT.ae aF.nil .nil ⟨by unfold fo;rw[if_neg HG0.ae];rfl,λ x hx=>by cases hx⟩)):p:=h
theorem zgJ.KbK(h:p:=by
 have oy:=aa Au;have F2:=aa Tn;have c9:=ih.c9;clear h hF ih q1 q2 q3 q4 q5 Au Tn;simp only[gU,fA,Tryz.f33,Option.getD_some];refine wp_seq_k λ Kx oG=>?_
 have Hq:=aa oG;clear oG;go_wp2_with fail;refine Hq.ae _ _ ?_;open zf8 in exact Zea):p:=h
theorem WI (gp gn:Nat)(Lw aJ:List Tr)(cols:List aW)(yg aL:List Ex)(ls:List tI)(GA:Option Addr)(gc:Nat)(CA:Option Addr)(cc:Nat)(AA:Option Addr)(ac:Nat)(rv:Value)(T:Array Value)(hT:T.size=164)
  (h0:T.getD 0 undef=aw gp) (h1:T.getD 1 undef=rv) (d:List Deferred) (w:World) (Q:Exit->Act->World->Prop)
  (ih:CY w gp Lw aJ cols yg aL GA gc CA cc AA ac) (q1:yg.length=gn) (q2:ls.length=aL.length) (q3:∀(i:Nat) y x,aL[i]?=some y->ls[i]?=some x->y.A=x.A/\y.n=x.ys.length/\y.c=x.c/\RE w w.heap.size x.A x.ys) (q4:(ls.flatMap tI.ys).length<=100000) (q5:aL.length<=100000) (Au:∀y∈aL,isAgg y.op=true) (Tn:aL.map Ex.op=aJ.map Tr.op)
  (h:∀(T':Array Value) av lv gb xs W,T'.size=164->T'.getD 0 undef=aw gp->T'.getD 1 undef=rv->T'.getD 6 undef=av->T'.getD 9 undef=aw gb->T'.getD 10 undef=lv->aj w W->aF bF 46 7 W w.heap.size av (ls.flatMap tI.ys)->aB W gb 84 #[af 0]->w.heap.size<=gb->aF cZ 135 1 W w.heap.size lv (xs.map gH.g)->kt W w.heap.size xs->nZ gn aJ xs [] []->(fA gU 6).wp Tryz.prog Q { tmps:=T',defers:=d } W):
  (fA gU 0).wp Tryz.prog Q { tmps:=T,defers:=d } w:=by
 obtain⟨f,rfl⟩:=Jo T hT;have h0:f 0=_:=h0;have h1:f 1=_:=h1;simp only[frg,h0,h1];clear h0 h1;clear h0 h1 hT;have hF:=λ(T':Array Value) av lv gb xs W a0 a1 a2 a3 a4 a5 a6 a7 a8 a9 b0 b1 b2=>h T' av lv gb xs W a0 a1 a2 a3 a4 a5 a6 a7 a8 a9 b0 b1 b2
 simp only[gU,fA,Tryz.f33,Option.getD_some] at hF;open zgJ in exact Zer
noncomputable def wP (aL aJ:List Tr) (cols:List aW) (rows:List (List Val)):Except Int (List (List Val)):=match Ei (rows.map λ r=>bB cols r (aL++aJ.flatMap Tr.args))with
 | .error e=> .error e
 | .ok l=>jO aL.length aJ l
def U3 (aL aJ:List Tr)(cols:List aW)(rows:List (List Val))(w0:World)(e:Ending)(W:World):Prop:=aj w0 W/\match wP aL aJ cols rows with
 | .error er=>er≠0/\∃v,e=.returned (.tuple #[v,af er])
 | .ok gs=>∃v cl,e=.returned (.tuple #[v,af 0])/\aF bX 38 1 W w0.heap.size v cl/\Mine W w0.heap.size cl/\cl.map (·.l)=gs
variable{rows:List aX}
theorem Dx{aJ:List Tr}  :wP aL aJ cols (rows.map (·.l))=if dY cols (aL++aJ.flatMap Tr.args) rows≠0 then .error (dY cols (aL++aJ.flatMap Tr.args) rows)else jO aL.length aJ (fp cols (aL++aJ.flatMap Tr.args) rows):=by
 have e1:((rows.map (·.l)).map λ r=>bB cols r (aL++aJ.flatMap Tr.args)).map exE=rows.map λ r=>na (bB cols r.l (aL++aJ.flatMap Tr.args)):=by
  rw[map_map,map_map];refine map_congr_left λ r _=>?_
  show exE (bB cols r.l (aL++aJ.flatMap Tr.args))=_;cases bB cols r.l (aL++aJ.flatMap Tr.args)<;> rfl
 have e2:((rows.map (·.l)).map λ r=>bB cols r (aL++aJ.flatMap Tr.args)).filterMap uh=fp cols (aL++aJ.flatMap Tr.args) rows:=by unfold fp;rw[map_map,filterMap_map];congr 1;funext r;show uh (bB cols r.l (aL++aJ.flatMap Tr.args))=_;cases bB cols r.l (aL++aJ.flatMap Tr.args)<;> rfl
 unfold wP;rw[Mw,e1,e2];unfold dY;by_cases h:cO (rows.map λ r=>na (bB cols r.l (aL++aJ.flatMap Tr.args)))=0
 ·rw[if_neg (by simp[h]),if_neg (by simp[h])]
 ·rw[if_pos h,if_pos h]
theorem U4{aJ:List Tr}  (h:dY cols (aL++aJ.flatMap Tr.args) rows≠0):wP aL aJ cols (rows.map (·.l))=.error (dY cols (aL++aJ.flatMap Tr.args) rows):=by rw[Dx,if_pos h]
variable{xs:List gH}
theorem aee{aJ:List Tr}   (h:dY cols (aL++aJ.flatMap Tr.args) rows=0)(hI:nZ aL.length aJ xs (fp cols (aL++aJ.flatMap Tr.args) rows) (fp cols (aL++aJ.flatMap Tr.args) rows)):wP aL aJ cols (rows.map (·.l))=if qj xs≠0 then .error (qj xs)else .ok (EC xs):=by
 rw[Dx,if_neg (by simp[h])];generalize fp cols (aL++aJ.flatMap Tr.args) rows=ls at*;have hk:(if aL.length=0 then [[]] else iR ((fY aL.length aJ ls).map (·.1)))=xs.map gH.key:=by rw[hI.keys];unfold fo fY;rw[map_map];rfl
 have e1:cO ((xs.map gH.key).map λ k=>cM (dR (aJ.map Tr.op) (fY aL.length aJ ls) k))=qj xs:=by
  unfold qj;rw[map_map];congr 1;exact map_congr_left λ x hx=>by show cM (dR (aJ.map Tr.op) (fY aL.length aJ ls) x.key)=_;rw[jg,hI.qB x hx]
 have e2:(xs.map gH.key).map (λ k=>k++(dR (aJ.map Tr.op) (fY aL.length aJ ls) k).map (·.1))=EC xs:=by
  unfold EC;rw[map_map];exact map_congr_left λ x hx=>by show x.key++(dR (aJ.map Tr.op) (fY aL.length aJ ls) x.key).map (·.1)=_;rw[jg,hI.qB x hx]
 unfold jO;show(if cO ((if aL.length=0 then [[]] else iR ((fY aL.length aJ ls).map (·.1))).map λ k=>cM (dR (aJ.map Tr.op) (fY aL.length aJ ls) k))≠0 then Except.error (cO ((if aL.length=0 then [[]] else iR ((fY aL.length aJ ls).map (·.1))).map λ k=>cM (dR (aJ.map Tr.op) (fY aL.length aJ ls) k)))else .ok ((if aL.length=0 then [[]] else iR ((fY aL.length aJ ls).map (·.1))).map λ k=>k++(dR (aJ.map Tr.op) (fY aL.length aJ ls) k).map (·.1)))=_;rw[hk,e1,e2]
theorem aef:Tryz.f33.body=some gU:=by unfold gU;simp only[Tryz.f33,Option.getD_some]
theorem aeg (a b:Value):(#[a,b]++Array.replicate (Tryz.f33.ntmps - (#[a,b]:Array Value).size) undef).size=164:=by simp[Tryz.f33]
theorem U5(h4:T.getD 4 undef=a)(h5:T.getD 5 undef=b):(results Tryz.f33 T).run Tryz.prog W=.ok (.tuple #[a,b]) W:=by
 have e4:T[4]?.getD undef=a:=by rw[<- h4];simp[Array.getD_eq_getD_getElem?]
 have e5:T[5]?.getD undef=b:=by rw[<- h5];simp[Array.getD_eq_getD_getElem?]
 simp[results,Tryz.f33,go_sem,e4,e5]
theorem QZ (gp:Nat)(aL aJ:List Tr)(cols:List aW)(yg ya:List Ex)(GA:Option Addr)(gc:Nat)(CA:Option Addr)(cc:Nat)(AA:Option Addr)(ac:Nat)(rows:List aX)(RA:Option Addr)(rrc:Nat)(w:World)
  (hEV:CY w gp aL aJ cols yg ya GA gc CA cc AA ac) (kE:ya.map Ex.op=aJ.map Tr.op) (hagg:∀t∈aJ,isAgg t.op=true) (J9:∀t∈aJ,t.args.length<=2) (Jq:Tr.cL (aL++aJ.flatMap Tr.args)) (zT:aL.length<=1000) (xh:aJ.length<=50000) (cf:cols.length<=140737488355328)
  (hR:RR w w.heap.size RA rows) (Qs:rows.length<=300) (lS:∀r∈rows,r.l.length<=140737488355328/\∀v∈r.l,v.Ok):
  ar 33 #[aw gp,.slice RA rows.length rrc] w (U3 aL aJ cols (rows.map (·.l)) w):=by
 obtain⟨ls,ft,hl2,tT,hl4⟩:=wh aJ ya hEV.ta;have Xs:=dW hEV.tg;have DY:=dW hEV.ta
 have hle:(ls.flatMap tI.ys).length<=100000:=by
  rw[<- dW tT,length_flatMap]
  have:∀l:List Tr,(∀t∈l,t.args.length<=2)->(l.map λ t=>t.args.length).sum<=2*l.length:=by
   intro l
   induction l with
   | nil=>intro _;simp
   | cons t l ih=>
     intro h;have h1:=h t (mem_cons_self ..);have h2:=ih λ u hu=>h u (mem_cons_of_mem _ hu)
     rw[map_cons,sum_cons,length_cons];omega
  have:=this aJ J9;omega
 have aqk:∀y∈ya,isAgg y.op=true:=λ y hy=>by
  have h1:y.op∈aJ.map Tr.op:=by rw[<- kE];exact mem_map_of_mem hy
  obtain⟨t,ht,he⟩:=List.mem_map.1 h1;rw[<- he];exact hagg t ht
 refine calls_of_wp Tryz.func33 aef ?_;obtain⟨T,JV⟩:∃T:Array Value,T= #[aw gp,.slice RA rows.length rrc]++Array.replicate (Tryz.f33.ntmps - (#[aw gp,.slice RA rows.length rrc]:Array Value).size) undef:=⟨_,rfl⟩;rw[<- JV];have hT:T.size=164:=by rw[JV];exact aeg _ _
 have t0:T.getD 0 undef=aw gp:=by rw[JV];simp[Array.getD_eq_getD_getElem?]
 have t1:T.getD 1 undef=.slice RA rows.length rrc:=by rw[JV];simp[Array.getD_eq_getD_getElem?]
 clear JV;refine WI gp aL.length aL aJ cols yg ya ls GA gc CA cc AA ac (.slice RA rows.length rrc) T hT t0 t1 [] w _ hEV Xs.symm ft hl2 hle WC aqk kE ?_;intro T1 av lv gb xs0 W1 s1 s2 s3 s4 s5 s6 b1 o1 k1 g1 l1 x1 i1;refine J8 w gp gb aL.length aL aJ cols yg ya (ls.flatMap tI.ys) GA gc CA cc AA ac rows RA rrc av lv xs0 T1 s1 s2 s3 s4 s5 s6 [] W1 _ hEV Xs.symm tT hl4 kE hagg J9 Jq WC WC hle cf hR Qs lS b1 o1 k1 g1 l1 x1 i1 ?_;intro T2 lv2 xs W2 s1 s2 s3 b2 k2 l2 x2 i2;have hlen:(fp cols (aL++aJ.flatMap Tr.args) rows).length<=rows.length:=uE _ _ _;refine aeb gb _ lv2 T2 s1 s2 s3 [] W2 _ k2 ?_ ?_
 ·intro hne a W e1 e2 e3 bW;refine⟨e1,_,U5 e2 e3,Below.trans b2 (bW.mono b2.size),?_⟩;rw[U4 hne];exact⟨hne,_,rfl⟩
 ·intro hz T3 s1 s2 s3;rw[hz] at k2;have hxl:xs.length<=301:=by have h1:=congrArg List.length i2.keys;rw[length_map] at h1;have h2:=xS aL.length ((fp cols (aL++aJ.flatMap Tr.args) rows).map λ l=>l.take aL.length);rw[length_map] at h2;omega
  obtain⟨LA,lc,hlv,_,L0⟩:=vZ l2;rw[length_map] at hlv;have pA:∀x∈xs,∀s∈x.ss,(s.Ok/\s.all < 4611686018427387904)/\∃v e,gI s v e:=λ x hx s hs=>by rw[i2.qB x hx] at hs;exact uD (λ op ho=>by obtain⟨t,ht,rfl⟩:=List.mem_map.1 ho;exact hagg t ht) (by unfold fY;rw[length_map];omega) s hs
  refine acN xs w.heap.size LA lc gb T3 s1 s2 (s3.trans hlv) [] W2 _ k2 L0 ?_ x2 WC ?_ (λ x hx s hs=>⟨(pA x hx s hs).1.1,(pA x hx s hs).2⟩) ?_
  ·intro a ha e;have:lv2.ownBlock=some gb:=by rw[hlv,fD,ha,<- e];rfl
   exact l2.other k2 Taa this
  ·intro x hx;refine⟨?_,?_⟩
   ·have:=rK (by rw[<- i2.keys];exact mem_map_of_mem hx);omega
   ·rw[i2.qB x hx,mY,length_map];omega
  ·intro a W ov cl e1 e2 e3 o3 m3 r3 g3;have hb3:aj w W:=dS b2 g3 g1;refine⟨e1,_,U5 e2 e3,hb3,?_⟩;rw[aee hz i2];by_cases he:qj xs=0
   ·rw[if_neg (by simp[he]),he];exact⟨_,cl,rfl,o3.down b2.size,λ r hr=>(m3 r hr).down b2.size,r3 he⟩
   ·rw[if_pos he];exact⟨he,_,rfl⟩
variable{op:Int}{args:List Tr}
theorem WJ(h:(fV cols op args).2=0):args.length<=2:=by
 unfold fV at h;split at h
 ·rename_i h1;exact absurd h h1
 ·unfold jG at h;split at h
  ·cases h
  ·rename_i h2;rw[length_map,Tr.oK] at h2;have h2:(args.length:Int)=iA op:=Decidable.byContradiction h2;rcases La (op:=op)with e | e | e <;> omega
def og (s:dy):Prop:=∀a∈s.aJ,a.args.length<=2
mutual
theorem Tr.MV (aL:List Tr)(cols:List aW):∀(t:Tr) (s:dy) (y:Tr) (s':dy),t.turn aL cols s=.ok (y,s')->og s->og s'
 | .mk op v name width args,s,y,s',h,hs=>by
   unfold Tr.turn at h;split at h
   ·injection h with h;injection h with h1 h2;rw[<- h2];exact hs
   ·split at h
    ·rename_i hop;split at h
     ·cases h
     ·rename_i hty;injection h with h;injection h with h1 h2;rw[<- h2];intro a ha;rcases List.mem_append.1 ha with ha | ha
      ·exact hs a ha
      ·rw[mem_singleton] at ha;rw[ha];have h9:=WJ (cols:=cols) (op:=op) (args:=args) (Decidable.byContradiction hty);exact h9
    ·split at h
     ·cases h
     ·rename_i ys s1 h1;split at h
      ·cases h
      ·split at h
       ·cases h
       ·injection h with h;injection h with h3 h4;rw[<- h4];exact Tr.GX aL cols args s ys s1 h1 hs
theorem Tr.GX (aL:List Tr)(cols:List aW):∀(ts:List Tr) (s:dy) (ys:List Tr) (s':dy),Tr.turns aL cols ts s=.ok (ys,s')->og s->og s'
 | [],s,ys,s',h,hs=>by unfold Tr.turns at h;injection h with h;injection h with h1 h2;rw[<- h2];exact hs
 | t::ts,s,ys,s',h,hs=>by
   unfold Tr.turns at h;split at h
   ·cases h
   ·rename_i y s1 h1;split at h
    ·cases h
    ·rename_i XC s2 h2;injection h with h;injection h with h3 h4;rw[<- h4];exact Tr.GX aL cols ts s1 XC s2 h2 (Tr.MV aL cols t s y s1 h1 hs)
end
variable{y:Tr}{k:Int}{s':dy}
theorem JC{g:Bool}   {t:Tr}    (h:oV g aL cols t s=.ok (y,k,s'))(hs:og s):og s':=by
 unfold oV at h;split at h
 ·exact Zfy
 ·split at h
  ·cases h
  ·rename_i y1 s1 h1;split at h
   ·cases h
   ·injection h with h;injection h with h2 h;injection h with h3 h4;rw[<- h4];exact Tr.MV aL cols t s y1 s1 h1 hs
theorem GY{g:Bool}  :∀ {l:List (Tr×ByteArray)} {s:dy} {ys:List Tr} {hd:List aW} {s':dy},dm g aL cols l s=.ok (ys,hd,s')->og s->og s'
 | [],s,ys,hd,s',h,hs=>by unfold dm at h;injection h with h;injection h with h1 h;injection h with h2 h3;rw[<- h3];exact hs
 |(t,nm)::l,s,ys,hd,s',h,hs=>by
  unfold dm at h;split at h
  ·cases h
  ·rename_i y k s1 h1;split at h
   ·cases h
   ·rename_i XC SX s2 h2;injection h with h;injection h with h3 h;injection h with h4 h5;rw[<- h5];exact GY h2 (JC h1 hs)
theorem Dy{g:Bool}  :∀ {l:List Tr} {s:dy} {ys:List Tr} {s':dy},dA g aL cols l s=.ok (ys,s')->og s->og s'
 | [],s,ys,s',h,hs=>by unfold dA at h;injection h with h;injection h with h1 h2;rw[<- h2];exact hs
 | t::l,s,ys,s',h,hs=>by
   unfold dA at h;split at h
   ·cases h
   ·rename_i y k s1 h1;split at h
    ·cases h
    split at h
    ·cases h
    ·rename_i XC s2 h2;injection h with h;injection h with h3 h4;rw[<- h4];exact Dy h2 (JC h1 hs)
theorem GZ{g:Bool}  :∀ {l:List (Tr×Bool)} {s:dy} {ys:List Tr} {s':dy},eu g aL cols l s=.ok (ys,s')->og s->og s'
 | [],s,ys,s',h,hs=>by unfold eu at h;injection h with h;injection h with h1 h2;rw[<- h2];exact hs
 |(t,d)::l,s,ys,s',h,hs=>by
  unfold eu at h;split at h
  ·cases h
  ·rename_i y k s1 h1;split at h
   ·cases h
   ·rename_i XC s2 h2;injection h with h;injection h with h3 h4;rw[<- h4];exact GZ h2 (JC h1 hs)
theorem zfX.Kbt(h:p:=by exact GZ h3 (Dy h2 (GY h1 (λ a ha=>by cases ha)))):p:=h
theorem U6{p:ib}(h:dn q cols=.ok p):og p.st:=by
 open zfX in exact ZdW
theorem MW{g:Bool}  :∀ {l:List (Tr×ByteArray)} {s:dy} {ys:List Tr} {hd:List aW} {s':dy},dm g aL cols l s=.ok (ys,hd,s')->Tr.cL (l.map (·.1))->Tr.cL s.aJ->Tr.cL ys/\Tr.cL s'.aJ/\hd.length=l.length/\s'.aL.length+s'.aJ.length<=s.aL.length+s.aJ.length+2*Tr.aQ (l.map (·.1))
 | [],s,ys,hd,s',h,_,hs=>by unfold dm at h;injection h with h;injection h with h1 h;injection h with h2 h3;subst h1 h2 h3;exact⟨by unfold Tr.cL;trivial,hs,rfl,by omega⟩
 |(t,nm)::l,s,ys,hd,s',h,ho,hs=>by
  unfold dm at h;rw[map_cons] at ho ⊢;unfold Tr.cL at ho;have hf:=lG g aL cols t s;split at h
  ·cases h
  rename_i y k s1 hy;split at h
  ·cases h
  rename_i XC SX s2 h2;injection h with h;injection h with h3 h;injection h with h4 h5;subst h3 h4 h5;have e1:=hf.ok _ _ _ hy ho.1;have e2:=hf.aok _ _ _ hy ho.1 hs;have e3:=hf.len _ _ _ hy;obtain⟨f1,f2,f3,f4⟩:=MW h2 ho.2 e2;have e4:Tr.aQ (t::l.map (·.1))=t.nodes+Tr.aQ (l.map (·.1)):=by rw[Tr.aQ]
  refine⟨by unfold Tr.cL;exact⟨e1,f1⟩,f2,by simp[f3],by rw[e4];omega⟩
theorem Ha{g:Bool}  :∀ {l:List Tr} {s:dy} {ys:List Tr} {s':dy},dA g aL cols l s=.ok (ys,s')->Tr.cL l->Tr.cL s.aJ->Tr.cL ys/\Tr.cL s'.aJ/\ys.length=l.length/\s'.aL.length+s'.aJ.length<=s.aL.length+s.aJ.length+2*Tr.aQ l
 | [],s,ys,s',h,_,hs=>by unfold dA at h;injection h with h;injection h with h1 h3;subst h1 h3;exact⟨by unfold Tr.cL;trivial,hs,rfl,by omega⟩
 | t::l,s,ys,s',h,ho,hs=>by
   unfold dA at h;unfold Tr.cL at ho;have hf:=lG g aL cols t s;split at h
   ·cases h
   rename_i y k s1 hy;split at h
   ·cases h
   split at h
   ·cases h
   rename_i XC s2 h2;injection h with h;injection h with h3 h5;subst h3 h5;have e1:=hf.ok _ _ _ hy ho.1;have e2:=hf.aok _ _ _ hy ho.1 hs;have e3:=hf.len _ _ _ hy;obtain⟨f1,f2,f3,f4⟩:=Ha h2 ho.2 e2;have e4:Tr.aQ (t::l)=t.nodes+Tr.aQ l:=by rw[Tr.aQ]
   refine⟨by unfold Tr.cL;exact⟨e1,f1⟩,f2,by simp[f3],by rw[e4];omega⟩
theorem MX{g:Bool}  :∀ {l:List (Tr×Bool)} {s:dy} {ys:List Tr} {s':dy},eu g aL cols l s=.ok (ys,s')->Tr.cL (l.map (·.1))->Tr.cL s.aJ->Tr.cL ys/\Tr.cL s'.aJ/\ys.length=l.length/\s'.aL.length+s'.aJ.length<=s.aL.length+s.aJ.length+2*Tr.aQ (l.map (·.1))
 | [],s,ys,s',h,_,hs=>by unfold eu at h;injection h with h;injection h with h1 h3;subst h1 h3;exact⟨by unfold Tr.cL;trivial,hs,rfl,by omega⟩
 |(t,b)::l,s,ys,s',h,ho,hs=>by
  unfold eu at h;rw[map_cons] at ho ⊢;unfold Tr.cL at ho;have hf:=lG g aL cols t s;split at h
  ·cases h
  rename_i y k s1 hy;split at h
  ·cases h
  rename_i XC s2 h2;injection h with h;injection h with h3 h5;subst h3 h5;have e1:=hf.ok _ _ _ hy ho.1;have e2:=hf.aok _ _ _ hy ho.1 hs;have e3:=hf.len _ _ _ hy;obtain⟨f1,f2,f3,f4⟩:=MX h2 ho.2 e2;have e4:Tr.aQ (t::l.map (·.1))=t.nodes+Tr.aQ (l.map (·.1)):=by rw[Tr.aQ]
  refine⟨by unfold Tr.cL;exact⟨e1,f1⟩,f2,by simp[f3],by rw[e4];omega⟩
theorem Hb:∀ {l:List Tr} {k:Nat} {gc:List aW},kI cols l k=.ok gc->gc.length=l.length
 | [],k,gc,h=>by unfold kI at h;injection h with h;subst h;rfl
 | t::ts,k,gc,h=>by
   unfold kI at h;split at h
   ·cases h
   split at h
   ·cases h
   rename_i l hg;injection h with h;subst h;rw[length_cons,length_cons,Hb hg]
structure Ra (q:Qy) (p:ib):Prop where
 items:Tr.cL p.items
 having:Tr.cL p.having
 order:Tr.cL p.order
 aJ:Tr.cL p.st.aJ
 agf:∀t∈p.st.aJ,isAgg t.op=true
 few:∀t∈p.st.aJ,t.args.length<=2
 li:p.items.length=q.items.length
 lh:p.having.length=q.fq.length
 lo:p.order.length=q.ord.length
 ln:p.st.aL.length+p.st.aJ.length<=q.aL.length+2*Tr.aQ (q.items.map (·.1))+2*Tr.aQ q.fq+2*Tr.aQ (q.ord.map (·.1))
theorem aeh{p:ib}(h:dn q cols=.ok p)(h1:Tr.cL (q.items.map (·.1)))(h2:Tr.cL q.fq)(h3:Tr.cL (q.ord.map (·.1))):Ra q p:=by
 obtain⟨_,_,gc,hd,s1,s2,_,hg,hi,hh,ho,_⟩:=uC h;obtain⟨a1,a2,a3,a4⟩:=MW hi h1 (by unfold Tr.cL;trivial);obtain⟨b1,b2,b3,b4⟩:=Ha hh h2 a2;obtain⟨c1,c2,c3,c4⟩:=MX ho h3 b2;have zT:=Hb hg;refine⟨a1,b1,c1,c2,Vr h,U6 h,xY hi,b3,c3,?_⟩;have e:(dy.mk [] gc).aL.length+(dy.mk [] gc).aJ.length=q.aL.length:=by rw[<- zT];rfl
 omega
theorem Tx (cols:List aW)(CA:Option Addr)(cc:Nat)(row:List Val)(RA:Option Addr)(rc:Nat)(ts:List Tr)(ys:List Ex)(A:Option Addr)(c:Nat)(w:World)(cf:cols.length<=140737488355328)(lS:row.length<=140737488355328)(hro:∀v∈row,v.Ok)
  (aZ:Tr.cL ts) (hat:Tr.aO w (Old w) ts ys) (hl:ys.length<=1599289640356) (hA:RE w w.heap.size A ys) (hC:RC w w.heap.size CA cols) (hV:RV w w.heap.size RA row):
  ar 16 #[.slice A ys.length c,.slice CA cols.length cc,.slice RA row.length rc] w λ e w'=>e=.returned (.tuple #[.bool (dz cols ts row).1,af (dz cols ts row).2])/\aj w w':=by
 cases ts with
 | nil=>unfold Tr.aO at hat;subst hat;refine(Yo A c _ _ w).mono ?_;rintro e w' ⟨rfl,rfl⟩;exact⟨rfl,Below.refl _ _⟩
 | cons t ts=>unfold Tr.aO at hat;obtain⟨y,ys',rfl,h1,_⟩:=hat;unfold Tr.cL at aZ;have he:=Tr.RG cols CA cc row RA rc cf lS hro t y w aZ.1 h1 hC hV;exact Yn A (y::ys').length c Tac hl y ys' _ _ (t.eval cols row) w hA he
theorem Ty (cols:List aW)(CA:Option Addr)(cc:Nat)(ts:List Tr)(ys:List Ex)(A:Option Addr)(c:Nat)(rows:List aX)(RA:Option Addr)(rc:Nat)(w:World)(cf:cols.length<=140737488355328)(Qs:rows.length<=1000000)(lS:∀r∈rows,r.l.length<=140737488355328/\∀v∈r.l,v.Ok)
  (aZ:Tr.cL ts) (hat:Tr.aO w (Old w) ts ys) (hl:ys.length<=1599289640356) (hA:RE w w.heap.size A ys) (hC:RC w w.heap.size CA cols) (hR:RR w w.heap.size RA rows):
  ar 32 #[.slice A ys.length c,.slice CA cols.length cc,.slice RA rows.length rc] w λ e w'=>∃v,e=.returned (.tuple #[v,af (bZ cols ts (rows.map (·.l))).2])/\aF bX 38 1 w' w.heap.size v (fK (dz cols ts) rows)/\aj w w':=by
 have he:(bZ cols ts (rows.map (·.l))).2=cO (rows.map λ r=>(dz cols ts r.l).2):=by unfold bZ;rw[map_map];rfl
 rw[he];refine Zj (.slice A ys.length c) (.slice CA cols.length cc) (dz cols ts) rows RA rc w Qs hR λ r hr W hW=>?_
 obtain⟨i,hi,rfl⟩:=getElem_of_mem hr;obtain⟨_,_,_,_,_,hv⟩:=(hR.below hW).at_ hi;exact Tx cols CA cc rows[i].l rows[i].A rows[i].c ts ys A c W cf (lS _ hr).1 (lS _ hr).2 aZ (Tr.aO.later hat hW) hl (hA.later hW) (hC.later hW) (hv.more hW.size)
theorem Rb (cols:List aW)(ts:List Tr)(rows:List aX):(fK (dz cols ts) rows).map (·.l)=(bZ cols ts (rows.map (·.l))).1:=by unfold fK bZ;dsimp only;rw[filter_map];rfl
theorem Hc{w:World} {base:Nat}  {cl:List aX}(h:aF bX 38 1 w base v cl)(hm:∀r∈cl,RV w w.heap.size r.A r.l):∃A c,v=.slice A cl.length c/\RR w w.heap.size A cl:=by
 obtain⟨A,c,hv,hc⟩:=ek (f:=bX) (size:=1) (λ _=>rfl) h;refine⟨A,c,hv,?_⟩;rcases hc with hc |⟨g,hA,hg,hc⟩
 ·exact .inl hc
 ·refine .inr ⟨g,0,hA,hg,λ i r hr=>⟨?_,hm r (mem_of_getElem? hr)⟩⟩;have:=hc i r 0 _ hr WC rfl;exact ZeU
variable{ts:List Tr}{A:Option Addr}{n:Nat}
theorem Rc{w:World}   (h:gJ w ts A n):∃ys,n=ys.length/\RE w w.heap.size A ys/\Tr.aO w (Old w) ts ys:=by obtain⟨hn,ys,h1,h2⟩:=h;refine⟨ys,by rw[hn,dW h2],?_,h2⟩;exact ZcQ
theorem ajp (s:St)(a b:Val):(s.feed a b).a=s.a\/(s.feed a b).a=a:=by
 unfold St.feed St.does St.some_ St.put St.alone St.Bn St.take;repeat' split
 all_goals first
  | exact .inl rfl
  | exact .inr rfl
theorem Dz:∀(l:List (Val×Val)) (s:St),s.a.Ok->(∀x∈l,x.1.Ok)->(l.foldl (λ s x=>s.feed x.1 x.2) s).a.Ok
 | [],s,hs,_=>hs
 | x::l,s,hs,h=>by
   rw[foldl_cons];refine Dz l _ ?_ λ y hy=>h y (mem_cons_of_mem _ hy)
   rcases ajp s x.1 x.2 with e | e
   ·rw[e];exact hs
   ·rw[e];exact h x (mem_cons_self ..)
theorem U7{l:List (Val×Val)}(h:∀x∈l,x.1.Ok):(kU op l).a.Ok:=Dz l (fh op) dX h
theorem zfr.Kbg(h:p:=by exact⟨_,λ w=>KC (hi a) (lo a) n q r _ nl c nh c2 hn e0 hs hd (Int.tmod_eq_emod_of_nonneg e0) s1 s2 w,(sf _).1,(sf _).2⟩):p:=h
theorem WK (a n:Int)(ha0:0<=a)(ha1:a < M*M)(hn:0 < n)(vz:n < 512):∃v,Ol a n v/\ -9223372036854775808<=v/\v<=9223372036854775807:=by
 have h0:=sk ha0;have h1:=aeN ha1;have l0:=sj a;have l1:=RO a;by_cases hs:(hi a / 9223372036854775808==0)=true
 ·have Np:=Int.emod_nonneg (hi a) (show n≠0 by omega);have Hy:=Int.emod_lt_of_pos (hi a) hn;obtain⟨q,r,hd⟩:=Hz (hi a % n) (lo a) n Np Hy vz l0 l1;exact⟨_,λ w=>KB (hi a) (lo a) n q r _ hn h0 hs hd (Int.tmod_eq_emod_of_nonneg h0) w,(sf _).1,(sf _).2⟩
 ·open zfr in exact Zdh
theorem ajq{s:St}(ok:s.Ok)(hc:s.count < 512)(ha:s.a.Ok):∃v e,gI s v e/\v.Ok:=by
 have h1:=ok.alD;have h2:=ok.asK;have h3:=ok.xj;unfold gI;split
 ·exact Zg5
 ·split
  ·exact Zg5
  ·split
   ·refine⟨_,_,⟨rfl,rfl⟩,?_⟩;unfold St.total;split
    ·exact dX
    ·split
     ·show -9223372036854775808<=Fl _/\Fl _<=9223372036854775807;unfold Fl;rw[IntKind.wrap_i64];omega
     ·exact dX
   ·split
    ·by_cases hz:s.count=0
     ·exact⟨aN,0,⟨.inl ⟨hz,rfl⟩,rfl⟩,dX⟩
     ·obtain⟨q,hq,q1,q2⟩:=WK s.sum s.count ok.abB ok.abC WC hc;exact⟨num q,0,⟨.inr ⟨hz,q,hq,rfl⟩,rfl⟩,q1,q2⟩
    ·exact⟨s.a,0,⟨rfl,rfl⟩,ha⟩
theorem aei{l:List Val}(h:∀v∈l,v.Ok)(i:Nat):(l.getD i aN).Ok:=by
 rw[getD_eq_getElem?_getD]
 cases hj:l[i]? with
 | none=>exact dX
 | some v=>exact h v (mem_of_getElem? hj)
theorem Hd:∀(ts:List Tr) (l:List Val),(∀v∈l,v.Ok)->∀x∈gS ts l,x.1.Ok
 | [],l,_,x,hx=>by cases hx
 | t::ts,l,h,x,hx=>by
   unfold gS at hx;rcases List.mem_cons.1 hx with rfl | hx
   ·dsimp only;split
    ·exact aei h 0
    ·exact dX
   ·exact Hd ts _ (λ v hv=>h v (mem_of_mem_drop hv)) x hx
variable{gs:List (List Val)}
theorem WM{ng:Nat} {aJ:List Tr} {l:List (List Val)}(hagg:∀t∈aJ,isAgg t.op=true)(hl:∀r∈l,∀v∈r,v.Ok)(hn:l.length<=300)(h:jO ng aJ l=.ok gs):gs.length<=l.length+1/\∀g∈gs,g.length<=ng+aJ.length/\∀v∈g,v.Ok:=by
 have hk:(if ng=0 then [[]] else iR ((fY ng aJ l).map (·.1)))=fo ng (l.map λ r=>r.take ng):=by unfold fo fY;rw[map_map];rfl
 unfold jO at h;have h:(if cO ((if ng=0 then [[]] else iR ((fY ng aJ l).map (·.1))).map λ k=>cM (dR (aJ.map Tr.op) (fY ng aJ l) k))≠0 then Except.error (cO ((if ng=0 then [[]] else iR ((fY ng aJ l).map (·.1))).map λ k=>cM (dR (aJ.map Tr.op) (fY ng aJ l) k)))else .ok ((if ng=0 then [[]] else iR ((fY ng aJ l).map (·.1))).map λ k=>k++(dR (aJ.map Tr.op) (fY ng aJ l) k).map (·.1)))=.ok gs:=h;rw[hk] at h;split at h
 ·cases h
 ·injection h with h;subst h;refine⟨?_,λ g hg=>?_⟩
  ·rw[length_map];have:=xS ng (l.map λ r=>r.take ng);rwa [length_map] at this
  ·obtain⟨k,hkm,rfl⟩:=List.mem_map.1 hg;have pP:=rK hkm;refine⟨?_,λ v hv=>?_⟩
   ·rw[length_append,length_map,jg,length_map,mY,length_map];omega
   ·rcases List.mem_append.1 hv with hv | hv
    ·unfold fo at hkm;split at hkm
     ·rw[mem_singleton] at hkm;rw[hkm] at hv;cases hv
     ·have:=((vG jE iP _).2 _).1 hkm;obtain⟨r,hr,rfl⟩:=List.mem_map.1 this;exact hl r hr v (mem_of_mem_take hv)
    ·rw[jg,map_map] at hv;obtain⟨s,hs,rfl⟩:=List.mem_map.1 hv;unfold dU at hs;obtain⟨i,hi,rfl⟩:=List.mem_map.1 hs;have hi:i <(aJ.map Tr.op).length:=List.mem_range.1 hi
     have hop:isAgg ((aJ.map Tr.op).getD i 0)=true:=by
      rw[getD_eq_getElem?_getD,getElem?_eq_getElem hi];have Gl:i < aJ.length:=by simpa using hi
      simp only[Option.getD_some,getElem_map];exact hagg _ (getElem_mem Gl)
     have oG:=hop;unfold isAgg at oG;simp only[Bool.and_eq_true,decide_eq_true_eq] at oG;have hlen:(pX i (fY ng aJ l) k).length<=300:=by unfold pX;rw[length_map];refine Nat.le_trans (length_filter_le _ _) ?_;unfold fY;rw[length_map];exact hn
     have r:=Ak oG.1 oG.2 (pX i (fY ng aJ l) k);have ok:=J5 oG.1 oG.2 r WC;have hcb:=Jp ((aJ.map Tr.op).getD i 0) (pX i (fY ng aJ l) k);have hct:=r.count;refine abP (ajq ok WC (U7 λ x hx=>?_));unfold pX at hx;obtain⟨p,hp,rfl⟩:=List.mem_map.1 hx;have hp:=(List.mem_filter.1 hp).1;unfold fY at hp;obtain⟨q,hq,rfl⟩:=List.mem_map.1 hp;dsimp only;rw[getD_eq_getElem?_getD]
     cases hj:(gS aJ (q.drop ng))[i]? with
     | none=>exact dX
     | some y=>exact Hd aJ (q.drop ng) (λ v hv=>hl q hq v (mem_of_mem_drop hv)) y (mem_of_getElem? hj)
theorem aej{aJ:List Tr}   (hagg:∀t∈aJ,isAgg t.op=true)(Jq:Tr.cL (aL++aJ.flatMap Tr.args))(hr:∀r∈rows,∀v∈r.l,v.Ok)(hn:rows.length<=300)(h:wP aL aJ cols (rows.map (·.l))=.ok gs):gs.length<=rows.length+1/\∀g∈gs,g.length<=aL.length+aJ.length/\∀v∈g,v.Ok:=by
 rw[Dx] at h;split at h
 ·cases h
 ·have hl:=uE cols (aL++aJ.flatMap Tr.args) rows;obtain⟨h1,h2⟩:=WM hagg (λ r hrm=>by
   obtain⟨x,hx,he⟩:=VI hrm
   exact CX (hr x hx) Jq he) WC h
  exact⟨by omega,h2⟩
theorem wQ{w:World} {base:Nat}  {l:List aW}(h:aF aS 113 2 w base v l):∃A c,v=.slice A l.length c/\RC w w.heap.size A l:=by
 obtain⟨A,c,hv,hc⟩:=ek (f:=aS) (size:=2) (λ _=>rfl) h;refine⟨A,c,hv,?_⟩;rcases hc with hc |⟨g,hA,hg,hc⟩
 ·exact .inl hc
 ·refine .inr ⟨g,0,hA,hg,λ i x hx=>?_⟩;have h0:=hc i x 0 _ hx WC rfl;have h1:=hc i x 1 _ hx WC rfl;unfold mG;rw[Nat.zero_add];exact⟨by simpa using h0,h1⟩
structure PlE (w:World) (gp:Nat) (q:Qy) (L:QL) (p:ib) (cols:List aW) (CA:Option Addr) (cc:Nat) (yg ya yi yh yo:List Ex) (AA:Option Addr) (ac:Nat) (VA:Option Addr) (vc:Nat) (HA:Option Addr) (hc:Nat) (IA:Option Addr) (ic:Nat) (JA:Option Addr) (jc:Nat) (DA:Option Addr) (dc:Nat):Prop where
 blk:∃cs,aB w gp 81 cs
 gr:CY w gp q.aL p.st.aJ cols yg ya L.g.A L.g.c CA cc AA ac
 ops:ya.map Ex.op=p.st.aJ.map Tr.op
 c10:w.cell? ⟨gp,10,none⟩=some (.slice VA p.st.aL.length vc)
 rv:RC w w.heap.size VA p.st.aL
 c11:w.cell? ⟨gp,11,none⟩=some (.bool q.aK)
 c12:w.cell? ⟨gp,12,none⟩=some (.slice HA p.head.length hc)
 c14:w.cell? ⟨gp,14,none⟩=some (.slice JA yh.length jc)
 rj:RE w w.heap.size JA yh
 tj:Tr.aO w (Old w) p.having yh
 c13:w.cell? ⟨gp,13,none⟩=some (.slice IA yi.length ic)
 ri:RE w w.heap.size IA yi
 ti:Tr.aO w (Old w) p.items yi
 c15:w.cell? ⟨gp,15,none⟩=some (.slice DA yo.length dc)
 ro:RE w w.heap.size DA yo
 eF:Tr.aO w (Old w) p.order yo
 c6:w.cell? ⟨gp,6,none⟩=some (.slice L.o.A L.o.n L.o.c)
section
variable {w w':World} {gp:Nat} {q:Qy} {L:QL} {p:ib} {cols:List aW} {CA:Option Addr} {cc:Nat} {yg ya yi yh yo:List Ex} {AA:Option Addr} {ac:Nat} {VA:Option Addr} {vc:Nat} {HA:Option Addr} {hc:Nat} {IA:Option Addr} {ic:Nat} {JA:Option Addr} {jc:Nat} {DA:Option Addr} {dc:Nat}
theorem PlE.later (h:PlE w gp q L p cols CA cc yg ya yi yh yo AA ac VA vc HA hc IA ic JA jc DA dc)(hb:aj w w'):PlE w' gp q L p cols CA cc yg ya yi yh yo AA ac VA vc HA hc IA ic JA jc DA dc:=by
 have hl:=h.gr.lt;have hc:=λ i=>hb.cell (p:=⟨gp,i,none⟩) hl
 obtain⟨cs,hcs⟩:=h.blk;exact⟨⟨cs,hcs.later hb⟩,h.gr.later hb,h.ops,(hc 10).trans h.c10,h.rv.later hb,(hc 11).trans h.c11,(hc 12).trans h.c12,(hc 14).trans h.c14,h.rj.later hb,Tr.aO.later h.tj hb,(hc 13).trans h.c13,h.ri.later hb,Tr.aO.later h.ti hb,(hc 15).trans h.c15,h.ro.later hb,Tr.aO.later h.eF hb,(hc 6).trans h.c6⟩
theorem PlE.run (h:PlE w gp q L p cols CA cc yg ya yi yh yo AA ac VA vc HA hc IA ic JA jc DA dc) {over:List aW} {OA:Option Addr}(ho:RC w w.heap.size OA over):MS w gp p.items p.order over yi yo IA ic DA dc OA:=
 ⟨h.gr.lt,h.c13,h.c15,h.ri,h.ti,h.ro,h.eF,ho⟩
end
variable{S:Nat->Prop}
theorem Tz{w:World} :∀ {ts:List Tr} {ys:List Ex},Tr.aO w S ts ys->ys.map Ex.op=ts.map Tr.op
 | [],ys,h=>by unfold Tr.aO at h;rw[h];rfl
 | t::ts,ys,h=>by unfold Tr.aO at h;obtain⟨y,ys',rfl,h1,h2⟩:=h;obtain⟨op,v,name,width,args⟩:=t;unfold Tr.at_ at h1;rw[map_cons,map_cons,Tz h2,h1.1];rfl
variable{u:Value}{ya yi yh yo:List Ex}
theorem U8{w:World}  {r:Rest}   {p:ib}(hP:agd (yq q L CA cc cols) w0 w gp r u v ya yi yh yo p)(hq:Ae (yq q L CA cc cols) w0 q L cols):
  ∃yg AA ac VA vc HA hc IA ic JA jc DA dc,PlE w gp q L p cols CA cc yg ya yi yh yo AA ac VA vc HA hc IA ic JA jc DA dc/\aF aS 113 2 w w0.heap.size (.slice HA p.head.length hc) p.head:=by obtain⟨AA,ac,hu,hra⟩:=rL hP.o0;obtain⟨VA,vc,hv,uQ⟩:=wQ hP.o1;obtain⟨HA,hc,hh,hrh⟩:=wQ hP.o2;obtain⟨IA,ic,hi,hri⟩:=rL hP.o3;obtain⟨JA,jc,hj,hrj⟩:=rL hP.o4;obtain⟨DA,dc,hd,mq⟩:=rL hP.o5;obtain⟨yg,hyn,hyr,Wo⟩:=Rc hq.ig;have k1:=hP.blk;unfold PC.cells at k1;have c4:=k1.cell 4;have c6:=k1.cell 6;have c8:=k1.cell 8;have c9:=k1.cell 9;have c10:=k1.cell 10;have c11:=k1.cell 11;have c12:=k1.cell 12;have XP:=k1.cell 13;have c14:=k1.cell 14;have c15:=k1.cell 15;simp only[Uaa] at c4 c6 c8 c9 c10 c11 c12 XP c14 c15;have c4:w.cell? ⟨gp,4,none⟩=some (.slice L.g.A L.g.n L.g.c):=c4;rw[hyn] at c4;rw[hu] at c9;rw[hv] at c10;rw[hh] at c12;rw[hi] at XP;rw[hj] at c14;rw[hd] at c15;refine⟨yg,AA,ac,VA,vc,HA,hc,IA,ic,JA,jc,DA,dc,⟨⟨_,hP.blk⟩,⟨k1.lt,c4,c8,c9,hyr.later hP.base,Tr.aO.later Wo hP.base,hra,Tr.aO.later hP.aJ hP.base,hq.ok.cols.later hP.base⟩,Tz hP.aJ,c10,uQ,c11,c12,c14,hrj,hP.t4,XP,hri,hP.t3,c15,mq,hP.t5,c6⟩,hh▸hP.o2⟩
noncomputable def kX (q:Qy) (p:ib) (cols:List aW) (e0:Int) (rows:List (List Val)):Except Int (List (List Val)):=
 if e0≠0 then .error e0 else if p.aK=false then .ok rows else match wP q.aL p.st.aJ cols rows with
 | .error e=> .error e
 | .ok gs=>if (bZ p.st.aL p.having gs).2≠0 then .error (bZ p.st.aL p.having gs).2 else .ok (bZ p.st.aL p.having gs).1
theorem U9 (q:Qy)(p:ib)(cols:List aW)(rows:List (List Val)):pS q p cols rows=kX q p cols (bZ cols q.bT rows).2 (bZ cols q.bT rows).1:=by
 unfold pS kX wP;split
 ·rfl
 ·split
  ·rfl
  ·cases Ei ((bZ cols q.bT rows).1.map λ r=>bB cols r (q.aL++p.st.aJ.flatMap Tr.args))<;> rfl
theorem zdB.KaH(h:p:=by
 clear hh hO hE VG;simp only[ez,fA,Tryz.f11,Option.getD_some];refine wp_seq_k λ K hK=>?_
 have DM:=aa hK;clear hK;by_cases h:er=0
 ·have t1:(er != 0)=false:=by simp[h]
  have H:=aa h;clear h;go_wp2_with fail;exact DM.ae _ _ (aiP.ae H.ae _ rfl rfl rfl rfl rfl rfl)
 ·have t1:(er != 0)=true:=by simp[h]
  have H:=aa h;clear h;go_wp2_with fail;have hs:=pK zW.ae;exact HE.ae H.ae _ _ rfl rfl rfl (((zW.ae.aU 0 _).aU 1 _).aU 2 _) hs):p:=h
theorem zg3.KbR(h:p:=by
 have hh:=λ h0 (T':Array Value) a0 a1 a2 a3 a4 a5=>hO h0 T' a0 a1 a2 a3 a4 a5
 simp only[ez,fA,Tryz.f11,Option.getD_some] at hh;have aiP:=aa hh;have HE:=aa hE;have zW:=aa VG;open zdB in exact ZbI):p:=h
theorem V0 (g3 g6 gp:Nat)(er:Int)(lv ov:Value)(T:Array Value)(hT:T.size=183)(h3:T.getD 3 undef=aw g3)(h6:T.getD 6 undef=aw g6)(h8:T.getD 8 undef=aw gp)(h9:T.getD 9 undef=af er)(h10:T.getD 10 undef=lv)(h11:T.getD 11 undef=ov)(d:List Deferred)(w:World)(Q:Exit->Act->World->Prop)
  (VG:aB w g6 33 #[az,az,af 0])
  (hE:er≠0->∀a W,a.defers=d->a.tmps.getD 6 undef=aw g6->a.tmps.getD 7 undef=af er->aB W g6 33 #[az,az,af 0]->aj w W->Q .ret a W)
  (hO:er=0->∀T':Array Value,T'.size=183->T'.getD 3 undef=aw g3->T'.getD 6 undef=aw g6->T'.getD 8 undef=aw gp->T'.getD 10 undef=lv->T'.getD 11 undef=ov->(fA ez 8).wp Tryz.prog Q { tmps:=T',defers:=d } w):
  (fA ez 7).wp Tryz.prog Q { tmps:=T,defers:=d } w:=by
 open zg3 in exact ZeK
def wR (w:World)(r:aX):Prop:=RV w w.heap.size r.A r.l/\r.l.length<=1000/\∀v∈r.l,v.Ok
theorem wR.later{w:World} {r:aX}(h:wR w r)(hb:aj w w'):wR w' r:=⟨h.1.later hb,h.2⟩
theorem zc0.Kax(h:p:=by
 have HP:=aa Gu;have c11:=hF.c11;clear ajr hE hO hF ih q1 q2 q3 q4 q5 Au Tn C3 hlv hz Nj Gu;simp only[ez,fA,Tryz.f11,Option.getD_some];refine wp_seq_k λ K hK=>?_
 have DM:=aa hK;clear hK;by_cases h:e0=0
 ·subst h;obtain⟨gd,hgd⟩:∃gd,gd=q.aK:=⟨_,rfl⟩;rw[<- hgd] at c11;have NA:=aa hgd;clear hgd
  cases gd with
  | false=>have J2:=aa (show kX q p cols 0 (rows.map (·.l))=.ok (rows.map (·.l)) by unfold kX;rw[if_neg Taa,if_pos (Q1.ae.trans NA.ae.symm)]);have HOV:=aa (show iT p cols=cols by unfold iT;rw[if_neg TaV]);go_wp2_with fail;refine DM.ae _ _ (HCK.ae 0 _ _ _ rfl rfl rfl rfl rfl rfl rfl w Q Ag.ae (λ Kx=>absurd rfl Kx) λ _ T' a0 a1 a2 a3 a4 a5=>?_);have ho:=HOL.ae _ J2.ae T' w rows EA ec CA cc a0 a1 a2 a3 a4 (by rw[HOV.ae];exact a5) (Below.refl _ _) HP.ae rfl gX.ae (by have:=G9.ae;omega) (by rw[HOV.ae];exact HF.ae.gr.rc);exact ho
  | true=>
    have c10:=HF.ae.c10;go_wp2_with fail;clear c10 c11
    have agj:Tr.cL (q.aL++p.st.aJ.flatMap Tr.args):=by
     rw[dM];intro t ht;rcases List.mem_append.1 ht with ht | ht
     ·exact dM.1 HFN.ae t ht
     ·obtain⟨a,ha,hta⟩:=List.mem_flatMap.1 ht;have:=dM.1 IH.ae.aJ a ha;obtain⟨op,v,name,width,args⟩:=a;unfold Tr.ok at this;exact dM.1 this.2.2.2.2.2 t hta
    have aqm:=aa agj;clear agj;refine(QZ gp q.aL p.st.aJ cols yg ya L.g.A L.g.c CA cc AA ac rows EA ec w HF.ae.gr HF.ae.ops IH.ae.agf IH.ae.few aqm.ae Q3.ae (by have:=Q4.ae;omega) (by have:=oy.ae;omega) HP.ae G9.ae (λ r hr=>⟨by have:=(gX.ae r hr).2.1;omega,(gX.ae r hr).2.2⟩)).mono ?_;rintro e w2 ⟨b2,hm⟩;have fG:=aa b2;clear b2;have HGI:=aa (λ gs=>aej (cols:=cols) (gs:=gs) IH.ae.agf aqm.ae (λ r hr=>(gX.ae r hr).2.2) G9.ae)
    cases hgr:wP q.aL p.st.aJ cols (rows.map (·.l))with
    | error er=>
      rw[hgr] at hm;obtain⟨hne,v,rfl⟩:=hm;have t1:(er==0)=false:=by simp[hne]
      have J2:=aa (show kX q p cols 0 (rows.map (·.l))=.error er by unfold kX;rw[if_neg Taa,if_neg TaV,hgr]);have nE:=aa hne;clear hgr hne;go_wp2_with fail;have KK:=HE.ae er J2.ae nE.ae;refine DM.ae _ _ (HCK.ae er _ _ _ rfl rfl rfl rfl rfl rfl rfl w2 Q (Ag.ae.later fG.ae) (λ _ a W e1 e2 e3 k6 bW=>KK a W e1 e2 e3 k6 (Below.trans fG.ae (bW.mono fG.ae.size))) λ Kx=>absurd Kx nE.ae)
    | ok gs=>
      rw[hgr] at hm;obtain⟨v,cl,rfl,ho,hmi,Eo⟩:=hm;have hgi:=HGI.ae gs hgr;have J2:=aa (show kX q p cols 0 (rows.map (·.l))=if (bZ p.st.aL p.having gs).2≠0 then .error (bZ p.st.aL p.having gs).2 else .ok (bZ p.st.aL p.having gs).1 by unfold kX;rw[if_neg Taa,if_neg TaV,hgr]);obtain⟨A2,c2,hv2,hr2⟩:=SR ho hmi;subst hv2;have WN:=aa (HF.ae.later fG.ae);have c14:=WN.ae.c14;have hcn:cl.length<=301:=by have h1:=congrArg List.length Eo;rw[length_map] at h1;have h2:=hgi.1;have h3:=G9.ae;omega
      have aeo:∀r∈cl,wR w2 r:=λ r hr=>by
       have hx:r.l∈gs:=by rw[<- Eo];exact mem_map_of_mem hr
       obtain⟨x1,x2⟩:=hgi.2 _ hx;obtain⟨A3,c3,e3,h3⟩:=Hp (hmi r hr);unfold aX.v at e3;injection e3 with e3;refine⟨by rw[e3];exact h3,by have:=Q4.ae;omega,x2⟩
      have HRI:=aa aeo;have HCN:=aa hcn;have Xx:=aa hr2;have avU:=aa Eo;have HMI:=aa hmi;clear hgr hgi hcn aeo hr2 Eo hmi ho HGI;go_wp2_with fail;clear c14;have hyl:yh.length=p.having.length:=(dW WN.ae.tj).symm;refine(Ty p.st.aL VA vc p.having yh JA jc cl A2 c2 w2 (by have:=Q5.ae;omega) (by have:=HCN.ae;omega) (λ r hr=>⟨by have:=(HRI.ae r hr).2.1;omega,(HRI.ae r hr).2.2⟩) IH.ae.having WN.ae.tj (by rw[hyl];have:=F2.ae;omega) WN.ae.rj WN.ae.rv Xx.ae).mono ?_;rintro e w3 ⟨v3,rfl,ho3,b3⟩;have Xo:=aa (Rb p.st.aL p.having cl);have Ln:iT p cols=p.st.aL:=by unfold iT;rw[if_pos (by rw[Q1.ae,<- NA.ae])]
      have HOV:=aa Ln;have NZ:=aa ho3;have tq:=aa b3;rw[avU.ae] at Xo ⊢;have V1:∀r∈fK (dz p.st.aL p.having) cl,wR w3 r:=λ r hr=>(HRI.ae r (List.mem_filter.1 hr).1).later tq.ae
      have zA:(fK (dz p.st.aL p.having) cl).length<=301:=Nat.le_trans (length_filter_le _ _) HCN.ae;obtain⟨A4,c4,hv4,hr4⟩:=Hc NZ.ae λ r hr=>(V1 r hr).1
      subst hv4;have HR4:=aa hr4;have avV:=aa V1;have HKN:=aa zA;obtain⟨e3,he3⟩:∃e3,e3=(bZ p.st.aL p.having gs).2:=⟨_,rfl⟩;rw[<- he3] at J2 ⊢;have HE3:=aa he3;clear ho3 b3 Ln V1 zA hr4 he3 hyl;by_cases KK:e3=0
      ·have HZ:=aa KK;have ajt:=aa (show kX q p cols 0 (rows.map (·.l))=.ok (bZ p.st.aL p.having gs).1 by rw[J2.ae,if_neg (by simp[KK])]);clear KK;go_wp2_with fail;refine DM.ae _ _ (HCK.ae e3 _ _ _ rfl rfl rfl rfl rfl rfl rfl w3 Q ((Ag.ae.later fG.ae).later tq.ae) (λ Kx=>absurd HZ.ae Kx) λ _ T' a0 a1 a2 a3 a4 a5=>?_);have kz:=Below.trans fG.ae (tq.ae.mono fG.ae.size);have ho:=HOL.ae _ ajt.ae T' w3 (fK (dz p.st.aL p.having) cl) A4 c4 VA vc a0 a1 a2 a3 a4 (by rw[HOV.ae];exact a5) kz HR4.ae Xo.ae avV.ae HKN.ae (by rw[HOV.ae];exact(WN.ae.later tq.ae).rv);exact ho
      ·have HZ:=aa KK;have ajt:=aa (show kX q p cols 0 (rows.map (·.l))=.error e3 by rw[J2.ae,if_pos KK]);clear KK;go_wp2_with fail;have hx:=HE.ae e3 ajt.ae HZ.ae;refine DM.ae _ _ (HCK.ae e3 _ _ _ rfl rfl rfl rfl rfl rfl rfl w3 Q ((Ag.ae.later fG.ae).later tq.ae) (λ _ a W e1 e2 e3 k6 bW=>hx a W e1 e2 e3 k6 (Below.trans fG.ae ((Below.trans tq.ae (bW.mono tq.ae.size)).mono fG.ae.size))) λ Kx=>absurd Kx HZ.ae)
 ·have J2:=aa (show kX q p cols e0 (rows.map (·.l))=.error e0 by unfold kX;rw[if_pos h]);have t1:(e0==0)=false:=by simp[h]
  have H:=aa h;clear h;go_wp2_with fail;have KK:=HE.ae e0 J2.ae H.ae;exact DM.ae _ _ (HCK.ae e0 _ _ _ rfl rfl rfl rfl rfl rfl rfl w Q Ag.ae (λ _ a W e1 e2 e3 k6 bW=>KK a W e1 e2 e3 k6 bW) λ Kx=>absurd Kx H.ae)):p:=h
theorem zg4.KbR(h:p:=by
 have ajr:=λ(er:Int) (lv ov:Value) T hT a0 a1 a2 a3 a4 a5 w Q=>V0 g3 g6 gp er lv ov T hT a0 a1 a2 a3 a4 a5 d w Q
 have HO:=aa hO;simp only[ez,fA,Tryz.f11,Option.getD_some] at ajr hO;have HCK:=aa ajr;have HOL:=aa hO;have HE:=aa hE;open zc0 in exact Zbb):p:=h
theorem aek (w0:World)(g3 g6 gp:Nat)(q:Qy)(L:QL)(p:ib)(cols:List aW)(CA:Option Addr)(cc:Nat)(yg ya yi yh yo:List Ex)(AA:Option Addr)(ac:Nat)(VA:Option Addr)(vc:Nat)(HA:Option Addr)(hc:Nat)(IA:Option Addr)(ic:Nat)(JA:Option Addr)(jc:Nat)(DA:Option Addr)(dc:Nat)(e0:Int)(rows:List aX)(base:Nat)(lv:Value)(T:Array Value)(hT:T.size=183)(h3:T.getD 3 undef=aw g3)(h6:T.getD 6 undef=aw g6)(h8:T.getD 8 undef=aw gp)(h9:T.getD 9 undef=af e0)(h10:T.getD 10 undef=lv)(h11:T.getD 11 undef=.slice CA cols.length cc)(d:List Deferred)(w:World)(Q:Exit->Act->World->Prop)
  (hF:PlE w gp q L p cols CA cc yg ya yi yh yo AA ac VA vc HA hc IA ic JA jc DA dc) (ih:Ra q p) (q1:p.aK=q.aK) (q2:Tr.cL q.aL) (q3:q.aL.length<=1000) (q4:q.aL.length+p.st.aJ.length<=1000) (q5:p.st.aL.length<=100000) (Au:cols.length<=100000) (Tn:p.having.length<=100000)
  (C3:aB w g6 33 #[az,az,af 0]) (hlv:aF bX 38 1 w base lv rows) (hz:∀r∈rows,wR w r) (Nj:rows.length<=300)
  (hE:∀er,kX q p cols e0 (rows.map (·.l))=.error er->er≠0->∀a W,a.defers=d->a.tmps.getD 6 undef=aw g6->a.tmps.getD 7 undef=af er->aB W g6 33 #[az,az,af 0]->aj w W->Q .ret a W)
  (hO:∀left,kX q p cols e0 (rows.map (·.l))=.ok left->∀(T':Array Value) W (rows':List aX) EA ec OA oc,T'.size=183->T'.getD 3 undef=aw g3->T'.getD 6 undef=aw g6->T'.getD 8 undef=aw gp->T'.getD 10 undef=.slice EA rows'.length ec->T'.getD 11 undef=.slice OA (iT p cols).length oc->aj w W->RR W W.heap.size EA rows'->rows'.map (·.l)=left->(∀r∈rows',wR W r)->rows'.length<=301->RC W W.heap.size OA (iT p cols)->(fA ez 8).wp Tryz.prog Q { tmps:=T',defers:=d } W):
  (fA ez 6).wp Tryz.prog Q { tmps:=T,defers:=d } w:=by
 obtain⟨EA,ec,aem,Gu⟩:=Hc hlv λ r hr=>(hz r hr).1
 subst aem;open zg4 in exact ZeK
theorem V2 (p:ib)(cols:List aW)(rows:List aX):xx p cols (rows.map (·.l))=if dY (iT p cols) (p.items++p.order) rows≠0 then .error (dY (iT p cols) (p.items++p.order) rows)else .ok (wK p.items p.order (iT p cols) rows):=by
 have e1:((rows.map (·.l)).map (Mx p (iT p cols))).map exE=rows.map λ r=>na (bB (iT p cols) r.l (p.items++p.order)):=by
  rw[map_map,map_map];refine map_congr_left λ r _=>?_
  show exE (Mx p (iT p cols) r.l)=_;unfold Mx;cases bB (iT p cols) r.l (p.items++p.order)<;> rfl
 have e2:((rows.map (·.l)).map (Mx p (iT p cols))).filterMap uh=wK p.items p.order (iT p cols) rows:=by unfold wK;rw[map_map,filterMap_map];congr 1
 rw[VH,Mw,e1,e2];rfl
noncomputable def wS (q:Qy) (p:ib) (cols:List aW) (e0:Int) (rows:List (List Val)):Except Int (List (List Val)):=match kX q p cols e0 rows with
 | .error e=> .error e
 | .ok left=>match xx p cols left with
   | .error e=> .error e
   | .ok ls=> .ok ((match q.lim with | []=>mO (q.ord.map λ o:Tr×Bool=>o.2) ls | n::_=>(mO (q.ord.map λ o:Tr×Bool=>o.2) ls).take n.toNat).map fC.row)
theorem aep (q:Qy)(cols:List aW)(rows:List (List Val)):iD q cols rows=match dn q cols with
 | .error e=> .error e
 | .ok p=>if rows.any (λ r=> !fJ cols r)=true then .error 40 else match wS q p cols (bZ cols q.bT rows).2 (bZ cols q.bT rows).1 with
   | .error e=> .error e
   | .ok la=> .ok (p.head,la):=by
 unfold iD wS
 cases dn q cols with
 | error e=>rfl
 | ok p=>
   dsimp only;split
   ·rfl
   ·rw[U9]
    cases kX q p cols (bZ cols q.bT rows).2 (bZ cols q.bT rows).1 with
    | error e=>rfl
    | ok left=>dsimp only;cases xx p cols left <;> rfl
theorem V3 (w0:World)(g3 g6 gp:Nat)(q:Qy)(L:QL)(p:ib)(cols:List aW)(CA:Option Addr)(cc:Nat)(yg ya yi yh yo:List Ex)(AA:Option Addr)(ac:Nat)(VA:Option Addr)(vc:Nat)(HA:Option Addr)(hc:Nat)(IA:Option Addr)(ic:Nat)(JA:Option Addr)(jc:Nat)(DA:Option Addr)(dc:Nat)(e0:Int)(rows:List aX)(base:Nat)(lv:Value)(T:Array Value)(hT:T.size=183)(h3:T.getD 3 undef=aw g3)(h6:T.getD 6 undef=aw g6)(h8:T.getD 8 undef=aw gp)(h9:T.getD 9 undef=af e0)(h10:T.getD 10 undef=lv)(h11:T.getD 11 undef=.slice CA cols.length cc)(d:List Deferred)(w:World)(Q:Exit->Act->World->Prop)
  (hPE:PlE w gp q L p cols CA cc yg ya yi yh yo AA ac VA vc HA hc IA ic JA jc DA dc) (Ah:Ra q p) (Sx:p.aK=q.aK) (hgo:Tr.cL q.aL) (hng:q.aL.length<=1000) (hsm:q.aL.length+p.st.aJ.length<=1000) (zT:p.st.aL.length<=100000) (cf:cols.length<=100000) (hyh:p.having.length<=100000)
  (Nj:q.items.length<=1000) (fI:q.ord.length<=1000)
  (ui:eP w0 (q.ord.map λ x=>(x.1,Value.bool x.2)) L.o.A L.o.n) (pJ:L.l.n=q.lim.length/\Ur w0 w0.heap.size L.l.A q.lim) (hlm:∀n∈q.lim,0<=n/\n<=9223372036854775807) (ft:q.lim.length<=1) (hb0:aj w0 w) (hg3:aB w g3 27 (eI q L))
  (rH:aB w g6 33 #[az,az,af 0]) (avX:w0.heap.size<=g6) (hlv:aF bX 38 1 w base lv rows) (rO:∀r∈rows,wR w r) (Qs:rows.length<=300)
  (hE:∀er,wS q p cols e0 (rows.map (·.l))=.error er->er≠0->∀a W,a.defers=d->a.tmps.getD 6 undef=aw g6->a.tmps.getD 7 undef=af er->aB W g6 33 #[az,az,af 0]->aj w0 W->Q .ret a W)
  (hO:∀la,wS q p cols e0 (rows.map (·.l))=.ok la->∀a W ov (out:List aX),a.defers=d->a.tmps.getD 6 undef=aw g6->a.tmps.getD 7 undef=af 0->aB W g6 33 #[.slice HA p.head.length hc,ov,af out.length]->aF bX 38 1 W w0.heap.size ov out->(∀r∈out,bL W r.A r.l)->out.map (·.l)=la->aj w0 W->w.grownBy W (some g6)->Q .ret a W):
  (fA ez 6).wp Tryz.prog Q { tmps:=T,defers:=d } w:=by
 have HG:∀ {W:World},w.grownBy W (some g6)->aj w0 W:=λ h=>dS hb0 h avX
 refine aek w0 g3 g6 gp q L p cols CA cc yg ya yi yh yo AA ac VA vc HA hc IA ic JA jc DA dc e0 rows base lv T hT h3 h6 h8 h9 h10 h11 d w Q hPE Ah Sx hgo hng hsm zT cf hyh rH hlv rO Qs ?_ ?_
 ·intro er hl hne a W e1 e2 e3 k6 bW;exact hE er (by unfold wS;rw[hl]) hne a W e1 e2 e3 k6 (Below.trans hb0 (bW.mono hb0.size))
 ·intro left hl T1 W1 agk EA ec OA oc s1 s2 s3 s4 s5 s6 b1 Xq hle hri avY hrc;have aqo:=hPE.later b1;have V5:aj w0 W1:=Below.trans hb0 (b1.mono hb0.size);have DB:=V2 p cols agk;rw[hle] at DB;refine Wk w0 gp g3 g6 p.items p.order (iT p cols) yi yo IA ic DA dc OA oc agk EA ec T1 s1 s2 s3 s4 s5 s6 d W1 Q (aqo.run hrc) (dM.2 λ t ht=>by
   rcases List.mem_append.1 ht with ht | ht
   ·exact dM.1 Ah.items t ht
   ·exact dM.1 Ah.order t ht) (by rw[Ah.li];omega) (by rw[Ah.lo];omega) ?_ (λ _=>by rw[Ah.li];omega) Xq avY (λ r hr=>(hri r hr).2) (rH.later b1) ?_ ?_
  ·unfold iT;split
   ·omega
   ·omega
  ·intro hne a W e1 e2 e3 k6 gW;rw[if_pos hne] at DB;refine hE _ (by unfold wS;rw[hl];dsimp only;rw[DB]) hne a W e1 e2 e3 k6 (HG (aY (aR b1) gW))
  ·intro hz T2 W2 LA lc dK s1 s2 s3 s4 s5 b2 aem avZ hls Hx;rw[if_neg (by simp[hz])] at DB;have aeq:=aqo.later b2;have aju:aj w0 W2:=Below.trans V5 (b2.mono V5.size);have k3:=((hg3.later b1).later b2);have c7:=k3.cell 7;unfold eI at c7;simp only[Uaa] at c7;rw[pJ.1] at c7;refine Q6 gp g3 g6 q.ord L.o.A L.o.n L.o.c q.lim L.l.A L.l.c dK W1.heap.size LA lc HA p.head.length hc T2 s1 s2 s3 s4 s5 d W2 Q WC WC aeq.gr.lt aeq.c12 aeq.c6 aeq.blk (ui.later aju) (λ b hb w' hg=>ui.later (dS aju hg (Nat.le_trans V5.size hb))) c7 ⟨_,k3⟩ ?_ hlm ft ((rH.later b1).later b2) b2.size aem (λ x hx=>by obtain⟨q1,q2,q3,q4⟩:=avZ x hx;exact⟨q1,q2,q3,by rw[q4,Ah.lo]⟩) ?_
   ·rcases pJ.2 with h |⟨b,off,x1,x2,x3⟩
    ·exact .inl h
    ·exact .inr ⟨b,off,x1,Nat.lt_of_lt_of_le x2 V5.size,λ i x hx=>(aju.cell (p:=⟨b,off+i,none⟩) x2).trans (x3 i x hx)⟩
   ·rintro a W ov out e1 e2 e3 k6 oW hk DY ⟨wm,gm,gW⟩;have g1:W1.grownBy W (some g6):=aY (pI (aR b2) gm (Nat.le_refl _) λ q hq=>(aem.lt hq).2.1) gW;have g2:w.grownBy W (some g6):=aY (aR b1) g1;refine hO _ ?_ a W ov out e1 e2 e3 k6 (oW.down V5.size) hk DY (HG g2) g2;unfold wS;rw[hl];dsimp only;rw[DB,<- hls];cases q.lim <;> rfl
def br (w0:World)(g n a b:Nat)(D:Nat->aX)(e:Ending)(w':World):Prop:=e=.returned (.tuple #[])/\∃E,SS w0 g n w' E/\Sw a b D E/\cD E a b
def QG (E:Nat->aX)(s n:Nat):Prop:=∀a,s ∣ a->cD E a (min (a+s) n)
def Low (E:Nat->aX)(s a:Nat):Prop:=∀x,s ∣ x->x+s<=a->cD E x (x+s)
def P8 (E:Nat->aX)(s a n:Nat):Prop:=∀x,s ∣ x->a<=x->cD E x (min (x+s) n)
def wJ (w:World)(e:Ending)(w':World):Prop:=e=.returned (.tuple #[])/\w'=w
variable{rs:List aX}
theorem RR.later{w:World}  (h:RR w w.heap.size A rs)(hb:aj w w'):RR w' w'.heap.size A rs:=by
 rcases h with h |⟨b,off,h1,h2,h3⟩
 ·exact .inl h
 ·exact .inr ⟨b,off,h1,Nat.lt_of_lt_of_le h2 hb.size,λ i r hr=>⟨(hb.cell (p:=⟨b,off+i,none⟩) h2).trans (h3 i r hr).1,((h3 i r hr).2.below hb).more hb.size⟩⟩
theorem JD (a b:Val)(w:World):ar 144 #[.agg (aD a),.agg (aD b)] w λ e w'=>e=.returned (af (bM a b))/\aj w w':=by
 by_cases hk:a.k=b.k
 ·have t1:(a.k != b.k)=false:=by simpa using hk
  by_cases hn:a.n=b.n
  ·have t2:(a.n != b.n)=false:=by simpa using hn
   have hv:bM a b=ld a.s b.s:=by unfold bM or3 lK;rw[if_neg (show¬a.k < b.k by omega),if_neg (show¬b.k < a.k by omega),if_pos rfl,if_neg (show¬a.n < b.n by omega),if_neg (show¬b.n < a.n by omega),if_pos rfl]
   have HV:=aa hv;clear hv hk hn;cases he:(a.s.toList==b.s.toList)
   ·cases hl:Op.bytesLess a.s.toList b.s.toList
    ·have HQ:=aa (show bM a b=1 by rw[HV.ae];unfold ld;rw[if_neg (by rw[hl];simp),if_neg (by rw[he];simp)]);exact Zbp
    ·have HQ:=aa (show bM a b= -1 by rw[HV.ae];unfold ld;rw[if_pos hl]);exact Zbp
   ·have hl:Op.bytesLess a.s.toList b.s.toList=false:=by
     have:a.s.toList=b.s.toList:=by simpa using he
     rw[this];exact jW _
    have HQ:=aa (show bM a b=0 by rw[HV.ae];unfold ld;rw[if_neg (by rw[hl];simp),if_pos he]);exact Zbp
  ·have t2:(a.n != b.n)=true:=by simpa using hn
   by_cases hl:a.n < b.n
   ·have t3:=decide_eq_true hl;have HQ:=aa (show bM a b= -1 by unfold bM or3 lK;rw[if_neg (show¬a.k < b.k by omega),if_neg (show¬b.k < a.k by omega),if_pos rfl,if_pos hl,if_neg Taa]);clear hk hn;exact Zbp
   ·have t3:=decide_eq_false hl;have HQ:=aa (show bM a b=1 by unfold bM or3 lK;rw[if_neg (show¬a.k < b.k by omega),if_neg (show¬b.k < a.k by omega),if_pos rfl,if_neg hl,if_pos (show b.n < a.n by omega),if_neg Taa]);clear hk hn;exact Zbp
 ·have t1:(a.k != b.k)=true:=by simpa using hk
  by_cases hl:a.k < b.k
  ·have t3:=decide_eq_true hl;have HQ:=aa (show bM a b= -1 by unfold bM or3 lK;rw[if_pos hl,if_neg Taa]);clear hk;exact Zbp
  ·have t3:=decide_eq_false hl;have HQ:=aa (show bM a b=1 by unfold bM or3 lK;rw[if_neg hl,if_pos (show b.k < a.k by omega),if_neg Taa]);clear hk;exact Zbp
theorem ze7.Ka8(h:p:=by clear fP y2 x0 x1 x2 y0 y1 Kx;replace hB:=ai.then hB hL;clear hL;exact ZbL):p:=h
theorem zgc.Kbz(h:p:=by go_big_quiet_step ((go_at_call 144;exact aH (Nat.le_refl _) (JD v v' _)));open ze7 in exact ZcU):p:=h
theorem WO (A:Option Addr)(c:Nat)(l:List Val)(A':Option Addr)(c':Nat)(l':List Val)(w:World)(h:RV w w.heap.size A l)(h':RV w w.heap.size A' l')(hm:l.length<=1000)(hm':l'.length<=1000):
  ar 90 #[.slice A l.length c,.slice A' l'.length c'] w λ e w'=>e=.returned (af (cH l l'))/\aj w w':=by
 have HR:=aa h;have HR':=aa h';clear h h';go_enter Tryz.func90,Tryz.ntmps90;go_wp2_with fail;go_loopw [5] (λ i wr=>∃k:Nat,k<=l.length/\k<=l'.length/\i=af k/\cH (l.drop k) (l'.drop k)=cH l l'/\aj w wr) (λ i _=>l.length - (intOf i).toNat);case atStart=>exact Zhg
 case round=>
  obtain⟨k,hk,Rv,rfl,hd,hB⟩:=hrel;have HD:=aa hd;clear hd;by_cases hlt:k < l.length
  ·by_cases Bq:k < l'.length
   ·obtain⟨b,off,rfl,hb,c0,c1,c2⟩:=(HR.ae.later hB).at_ hlt;obtain⟨b',off',rfl,hb',d0,d1,d2⟩:=(HR'.ae.later hB).at_ Bq;have HS:=aa (Fs l l' k hlt Bq);generalize l[k]=v at*;generalize l'[k]=v' at*;have x0:=λ q:Ext wr.heap.size wr=>(q.h.cell (p:=⟨b,off+k*3,none⟩) hb).trans c0
    have x1:=λ q:Ext wr.heap.size wr=>(q.h.cell (p:=⟨b,off+k*3+1,none⟩) hb).trans c1
    have x2:=λ q:Ext wr.heap.size wr=>(q.h.cell (p:=⟨b,off+k*3+2,none⟩) hb).trans c2
    have y0:=λ q:Ext wr.heap.size wr=>(q.h.cell (p:=⟨b',off'+k*3,none⟩) hb').trans d0
    have y1:=λ q:Ext wr.heap.size wr=>(q.h.cell (p:=⟨b',off'+k*3+1,none⟩) hb').trans d1
    have Kx:=λ q:Ext wr.heap.size wr=>(q.h.cell (p:=⟨b',off'+k*3+2,none⟩) hb').trans d2
    clear c0 c1 c2 d0 d1 d2;go_upto_region 4 with fail;refine aM 9 wr.heap.size wr (Below.refl _ _) Va Va Va Va ?_;open zgc in exact Zec
   ·have HS:=aa (Fu l l' k hlt WC);have n1:¬l.length < l'.length:=by omega
    have n2:l'.length < l.length:=by omega
    exact ZcY
  ·by_cases Bq:k < l'.length
   ·have HS:=aa (Fv l l' k WC Bq);have n1:l.length < l'.length:=by omega
    exact ZcY
   ·have HS:=aa (KJ l l' k WC WC);have n1:¬l.length < l'.length:=by omega
    have n2:¬l'.length < l.length:=by omega
    exact ZcY
theorem WQ (A:Option Addr)(c:Nat)(l:List Val)(A':Option Addr)(c':Nat)(l':List Val)(w:World)(h:RV w w.heap.size A l)(h':RV w w.heap.size A' l')(hm:l.length<=1000)(hm':l'.length<=1000):
  ar 53 #[.slice A l.length c,.slice A' l'.length c'] w λ e w'=>e=.returned (.bool (cH l l'==0))/\aj w w':=by have HL:=WO A c l A' c' l' w h h' hm hm';clear h h';go_enter Tryz.func53,Tryz.ntmps53;go_wp2_with fail;refine HL.mono ?_;exact ZcT
theorem ze8.Ka8(h:p:=by
 clear fP y2;go_wp2_with fail;go_roundw;case rel=>exact⟨i+1,uX,by go_num,ai.then hb hL⟩
 case measure=>exact Za0):p:=h
theorem zgd.Kbz(h:p:=by go_big_quiet_step ((go_at_call 53;exact aH (Nat.le_refl _) (hc1 _)));open ze8 in exact ZcU):p:=h
theorem DD (A:Option Addr)(c:Nat)(rs:List aX)(A':Option Addr)(c':Nat)(ss:List aX)(w:World)(h:RR w w.heap.size A rs)(h':RR w w.heap.size A' ss)(he:rs.map (·.l)=ss.map (·.l))(hm:rs.length<=1000)(hl:∀r∈rs,r.l.length<=1000):
  ar 26 #[.slice A rs.length c,.slice A' ss.length c'] w λ e w'=>e=.returned (.bool true)/\aj w w':=by
 have hlen:ss.length=rs.length:=by simpa using(congrArg List.length he).symm
 have Nl:=aa (show∀i (h1:i < rs.length) (h2:i < ss.length),ss[i].l=rs[i].l from λ i h1 h2=>by
  have:=congrArg (λ l=>l[i]?) he
  simp only[getElem?_map,getElem?_eq_getElem h1,getElem?_eq_getElem h2,Option.map_some,Option.some.injEq] at this
  exact this.symm)
 have UC:=aa hlen;have HR:=aa h;have HR':=aa h';have HL:=aa hl;rw[hlen];clear he h h' hl hlen;go_enter Tryz.func26,Tryz.ntmps26;go_wp2_with fail;go_loopw [5] (λ Kx wr=>∃k:Nat,k<=rs.length/\Kx=af k/\aj w wr) (λ Kx _=>rs.length - (intOf Kx).toNat);case atStart=>exact Zgo
 case round=>
  obtain⟨i,hi,rfl,hb⟩:=hrel;by_cases uX:i < rs.length
  ·have YW:i < ss.length:=by rw[UC.ae];exact uX
   obtain⟨b1,o1,rfl,l1,c1,r1⟩:=(HR.ae.later hb).at_ uX;obtain⟨b2,o2,rfl,l2,c2_,r2⟩:=(HR'.ae.later hb).at_ YW;have k1:=λ q:Ext wr.heap.size wr=>(q.h.cell (p:=⟨b1,o1+i,none⟩) l1).trans c1
   have k2:=λ q:Ext wr.heap.size wr=>(q.h.cell (p:=⟨b2,o2+i,none⟩) l2).trans c2_
   have hc1:=λ q:Ext wr.heap.size wr=>WQ rs[i].A rs[i].c rs[i].l ss[i].A ss[i].c ss[i].l q.w (r1.later q.h) (r2.later q.h) (HL.ae _ (getElem_mem uX)) (by rw[Nl.ae i uX YW];exact HL.ae _ (getElem_mem uX))
   have t1:(cH rs[i].l ss[i].l==0)=true:=by rw[Nl.ae i uX YW,xo];rfl
   clear c1 c2_ l1 l2 r1 r2;go_upto_region 6 with fail;refine aM 10 wr.heap.size wr (Below.refl _ _) Va Va Va Va ?_;open zgd in exact Zec
  ·exact Zdi
theorem aer:Tryz.f11.body=some ez:=by unfold ez;simp only[Tryz.f11,Option.getD_some]
theorem aes (a b c:Value):(#[a,b,c]++Array.replicate (Tryz.f11.ntmps - (#[a,b,c]:Array Value).size) undef).size=183:=by simp[Tryz.f11]
variable{g6:Nat}{c:Value}
theorem zgv.KbG(h:p:=by simp[results,Tryz.f11,go_sem,e6,e7,v0,v1,v2]):p:=h
theorem JE(h6:T.getD 6 undef=aw g6)(h7:T.getD 7 undef=u)(HV:aB W g6 33 #[a,b,c]):(results Tryz.f11 T).run Tryz.prog W=.ok (.tuple #[.agg #[a,b,c],u]) W:=by
 have e6:T[6]?.getD undef=aw g6:=by rw[<- h6];simp[Array.getD_eq_getD_getElem?]
 have e7:T[7]?.getD undef=u:=by rw[<- h7];simp[Array.getD_eq_getD_getElem?]
 open zgv in exact Zen
def DF (q:Qy)(cols:List aW)(rows:List (List Val))(w0:World)(e:Ending)(W:World):Prop:=
 aj w0 W/\match iD q cols rows with
 | .error er=>er≠0/\e=.returned (.tuple #[.agg #[az,az,af 0],af er])
 | .ok (hd,la)=>∃HA hc ov out,e=.returned (.tuple #[.agg #[.slice HA hd.length hc,ov,af la.length],af 0])/\aF aS 113 2 W w0.heap.size (.slice HA hd.length hc) hd/\aF bX 38 1 W w0.heap.size ov out/\(∀r∈out,bL W r.A r.l)/\out.map (·.l)=la
theorem V6{p:ib}(h:dn q cols=.ok p):∀n∈q.lim,0<=n:=by
 unfold dn at h;split at h
 ·cases h
 ·rename_i hn;intro n hm;rcases hl:q.lim with _ |⟨a,_ |⟨b,l⟩⟩
  ·rw[hl] at hm;cases hm
  ·rw[hl] at hm hn;rw[mem_singleton] at hm;subst hm;refine Int.not_lt.1 λ hlt=>hn (.inr (.inr (.inr ⟨rfl,hlt⟩)))
  ·rw[hl] at hn;exact absurd (.inr (.inr (.inl Tac))) hn
theorem WR{p:ib}(h:dn q cols=.ok p):q.lim.length<=1:=by
 unfold dn at h;split at h
 ·cases h
 ·rename_i hn;exact Nat.not_lt.1 λ hlt=>hn (.inr (.inr (.inl hlt)))
theorem JF{p:ib}(h:dn q cols=.ok p):q.all.any (λ t=>decide (32 < t.depth))=false:=by
 unfold dn at h;split at h
 ·cases h
 ·split at h
  ·cases h
  ·rename_i hn;exact Bool.not_eq_true _▸hn
structure JG (w0:World) (q:Qy) (L:QL) (CA:Option Addr) (cc:Nat) (cols:List aW) (RA:Option Addr) (rows:List aX):Prop where
 qy:nQ w0 q L
 ok:q.Ok
 pl:Ae (yq q L CA cc cols) w0 q L cols
 cl:cols.length<=1000
 rr:RR w0 w0.heap.size RA rows
 each:∀r∈rows,r.l.length<=1000/\∀v∈r.l,v.Ok
 rn:rows.length<=300
 ng:q.aL.length<=1000
 ni:q.items.length<=1000
 no:q.ord.length<=1000
 nh:q.fq.length<=1000
 nw:q.bT.length<=1000
 sm:q.all.any (λ t=>decide (32 < t.depth))=false->q.aL.length+(q.aL.length+2*Tr.aQ (q.items.map (·.1))+2*Tr.aQ q.fq+2*Tr.aQ (q.ord.map (·.1)))<=1000
 lim:∀n∈q.lim,n<=9223372036854775807
variable{RA:Option Addr}
theorem JG.later{w:World}       (h:JG w0 q L CA cc cols RA rows)(hb:aj w0 w):JG w q L CA cc cols RA rows:=
 ⟨h.qy.later hb,h.ok,h.pl.later hb,h.cl,RR.later h.rr hb,h.each,h.rn,h.ng,h.ni,h.no,h.nh,h.nw,h.sm,h.lim⟩
theorem zg2.KbQ(h:p:=by clear pA;go_wp2_with fail;refine⟨rfl,_,JE rfl rfl (((Mi.ae.aU 0 _).aU 1 _).aU 2 _),?_⟩;unfold DF;rw[HR.ae];exact⟨Below.trans Ma.ae ((pK Mi.ae).mono Ma.ae.size),by decide,rfl⟩):p:=h
theorem aet (q:Qy)(L:QL)(CA:Option Addr)(cc:Nat)(cols:List aW)(RA:Option Addr)(rc:Nat)(rows:List aX)(T:Array Value)(hT:T.size=183)(h0:T.getD 0 undef=mM q L)(h1:T.getD 1 undef=.slice CA cols.length cc)(h2:T.getD 2 undef=.slice RA rows.length rc)(w0:World)(hq:JG w0 q L CA cc cols RA rows):
  (fA ez 0).wp Tryz.prog (bodyPost Tryz.prog Tryz.f11 (DF q cols (rows.map (·.l)) w0)) { tmps:=T,defers:=[] } w0:=by
 obtain⟨f,rfl⟩:=ym T hT;have h0:f 0=_:=h0;have h1:f 1=_:=h1;have h2:f 2=_:=h2;unfold mM at h0;simp only[XN,h0,h1,h2];clear h0 h1 h2;clear h0 h1 h2 hT;have b1:=ah w0 (.cells (eI q L) 27);have cJ:=aB.new w0 27 (eI q L);obtain⟨W1,hW1⟩:∃W1,W1=w0.alloc (.cells (eI q L) 27):=⟨_,rfl⟩;have s1:W1.heap.size=w0.heap.size+1:=by rw[hW1,World.size_alloc]
 rw[<- hW1] at b1 cJ;have hL:=ah W1 (.cells #[.slice CA cols.length cc] 28);have k4:=aB.new W1 28 #[.slice CA cols.length cc];obtain⟨W2,hW2⟩:∃W2,W2=W1.alloc (.cells #[.slice CA cols.length cc] 28):=⟨_,rfl⟩;have s2:W2.heap.size=W1.heap.size+1:=by rw[hW2,World.size_alloc]
 rw[<- hW2] at hL k4;have b3:=ah W2 (.cells #[az,az,af 0] 33);have VG:=aB.new W2 33 #[az,az,af 0];obtain⟨W3,hW3⟩:∃W3,W3=W2.alloc (.cells #[az,az,af 0] 33):=⟨_,rfl⟩;rw[<- hW3] at b3 VG;have hb:=ai.then (ai.then b1 hL) b3;have HX:=aa (show aB W3 w0.heap.size 27 (eI q L)from(cJ.later hL).later b3);have K3:=aa (show aB W3 W1.heap.size 28 #[.slice CA cols.length cc] from k4.later b3);have K6:=aa VG;have HB:=aa hb;have HQ:=aa (hq.later hb);have wV:=aa (show w0.heap.size<=W2.heap.size by omega);have c0:=HX.ae.cell 0;have c1:=HX.ae.cell 1;have c2:=HX.ae.cell 2;have y3:=HX.ae.cell 3;have c4:=HX.ae.cell 4;have c5:=HX.ae.cell 5;have c6:=HX.ae.cell 6;have c7:=HX.ae.cell 7;have d0:=K3.ae.cell 0;unfold eI at c0 c1 c2 y3 c4 c5 c6 c7;simp only[Uaa] at c0 c1 c2 y3 c4 c5 c6 c7 d0;subst hW2;subst hW1;obtain⟨g3,hg3⟩:∃g3,g3=w0.heap.size:=⟨_,rfl⟩;have uR:=aa hg3;have hpl:=Dw q L CA cc cols W3 HQ.ae.qy HQ.ae.ok HQ.ae.cl HQ.ae.pl;unfold mM at hpl;have JR:=aa hpl;have Xn:=aa hq;clear hq b1 hL b3 cJ k4 VG hb s1 s2 hg3 hpl;unfold eI at hW3;simp only[World.size_alloc] at c0 c1 c2 y3 c4 c5 c6 c7 d0 K3 K6 wV;simp only[ez,fA,Tryz.f11,Option.getD_some];refine wp_seq_k λ K hK=>?_
 have DM:=aa hK;clear hK;go_wp2_with fail;refine DM.ae _ _ ?_;clear DM;rw[<- hW3];have HW3:=aa hW3;clear hW3;obtain⟨g4,hg4⟩:∃g4,g4=w0.heap.size+1:=⟨_,rfl⟩;obtain⟨g6,rH⟩:∃g6,g6=w0.heap.size+1+1:=⟨_,rfl⟩;obtain⟨g3,hg3⟩:∃g3,g3=w0.heap.size:=⟨_,rfl⟩;have awa:=aa (show w0.heap.size<=g6 by omega);rw[<- rH] at K6 ⊢;rw[<- hg4] at d0 K3 ⊢;rw[<- hg3] at c0 c1 c2 y3 c4 c5 c6 c7 HX ⊢;clear hg3 hg4 rH wV uR HW3;refine wp_seq_k λ Kx oG=>?_
 have Hq:=aa oG;clear oG;go_wp2_with fail;clear c0 c1 c2 y3 c4 c5 c6 c7 d0;refine JR.ae.mono ?_;intro e W hp;unfold Dv at hp;have ur:=aa (aep q cols (rows.map (·.l)))
 cases q3:dn q cols with
 | error er=>
   rw[q3] at hp;obtain⟨hne,rfl,q4⟩:=hp;have HR:=aa (show iD q cols (rows.map (·.l))=.error er by rw[ur.ae,q3]);have t1:(er != 0)=true:=by simp[hne]
   have nE:=aa hne;have VG:=K6.ae.later q4;have zW:=aa VG
   have z0:=VG.cell 0;have z1:=VG.cell 1;have x2:=VG.cell 2;have f0:=VG.frozen 0;have f1:=VG.frozen 1;have f2:=VG.frozen 2;simp only[Uaa] at z0 z1 x2
   have Q4:=aa (Below.trans HB.ae (q4.mono HB.ae.size));clear q3 hne VG q4;go_wp2_with fail;refine Hq.ae _ _ ?_;clear Hq;refine wp_seq_k λ K1 hK1=>?_
   clear hK1;go_wp2_with fail;refine⟨rfl,_,JE rfl rfl (((zW.ae.aU 0 _).aU 1 _).aU 2 _),?_⟩;unfold DF;rw[HR.ae];exact⟨Below.trans Q4.ae ((pK zW.ae).mono Q4.ae.size),nE.ae,rfl⟩
 | ok p=>
   rw[q3] at hp;obtain⟨gp,r,u,v,ya,yi,yh,yo,rfl,ajv⟩:=hp;have Y8:=HQ.ae;obtain⟨yg,AA,ac,VA,vc,HA,hc,IA,ic,JA,jc,DA,dc,hF,ih⟩:=U8 ajv Y8.pl;have q1:=aeh q3 Y8.pl.qi Y8.pl.qh Y8.pl.qo;obtain⟨q2,_⟩:=uC q3;have q4:=ajv.base;have HF:=aa hF;have IH:=aa ih;have Q1:=aa q1;have HFN:=aa q2;have Q3:=aa q3;have Q4:=aa q4;have uS:=aa (Below.trans HB.ae (q4.mono HB.ae.size));have tx:=aa (HX.ae.later q4);have wA:=aa (K3.ae.later q4);have zW:=aa (K6.ae.later q4);have Sy:=aa (Y8.later q4);clear q3 ajv Y8 hF ih q1 q2 q4;go_wp2_with fail;refine Hq.ae _ _ ?_
   clear Hq;refine wp_seq_k λ K1 hK1=>?_
   have nx:=aa hK1;clear hK1;go_wp2_with fail;refine nx.ae _ _ ?_;clear nx;refine wp_seq_k λ HX hK2=>?_
   have IL:=aa hK2;clear hK2
   have d0:=wA.ae.cell 0;simp only[getElem?_toArray,getElem?_cons_zero] at d0;go_wp2_with fail;refine(MJ g4 cols CA cc rows RA rc W wA.ae.lt d0 (by have:=Sy.ae.cl;omega) (by have:=Sy.ae.rn;omega) (λ x q3=>by have:=(Sy.ae.each x q3).1;omega) Sy.ae.pl.ok.cols Sy.ae.rr).mono ?_;rintro e w2 ⟨rfl,hL⟩;have fG:=aa hL;have aqq:((rows.map (·.l)).any λ r=> !fJ cols r)=(rows.any λ r=> !fJ cols r.l):=by rw[any_map];rfl
   have aqr:=aa aqq;have Ma:=aa (Below.trans uS.ae (hL.mono uS.ae.size));have Mi:=aa (zW.ae.later hL);clear hL aqq d0
   cases pA:(rows.any λ r=> !fJ cols r.l)with
   | true=>have HR:=aa (show iD q cols (rows.map (·.l))=.error 40 by rw[ur.ae,Q3.ae];dsimp only;rw[aqr.ae,pA,if_pos rfl]);open zg2 in exact ZeI
   | false=>
     have HR:=aa (show iD q cols (rows.map (·.l))=(match wS q p cols (bZ cols q.bT (rows.map (·.l))).2 (bZ cols q.bT (rows.map (·.l))).1 with | .error e=> .error e | .ok la=> .ok (p.head,la)) by rw[ur.ae,Q3.ae];dsimp only;rw[aqr.ae,pA,if_neg Taa];try(try(generalize wS q p cols _ _=z;cases z <;> rfl)));clear pA;go_wp2_with fail;refine IL.ae _ _ ?_;clear IL;refine wp_seq_k λ K3 hK3=>?_
     have CH:=aa hK3;clear hK3;have yS:=aa (Sy.ae.later fG.ae);obtain⟨yw,xO,hR,Wo⟩:=Rc yS.ae.pl.iw;have y3:=(tx.ae.later fG.ae).cell 3;have d0:=(wA.ae.later fG.ae).cell 0;unfold eI at y3;simp only[Uaa] at y3 d0;rw[xO] at y3;have xP:=aa hR;have GQ:=aa Wo;clear hR Wo xO;go_wp2_with fail;clear y3 d0;have hyl:yw.length=q.bT.length:=(dW GQ.ae).symm;refine(Ty cols CA cc q.bT yw L.w.A L.w.c rows RA rc w2 (by have:=yS.ae.cl;omega) (by have:=yS.ae.rn;omega) (λ x q3=>⟨by have:=(yS.ae.each x q3).1;omega,(yS.ae.each x q3).2⟩) yS.ae.pl.qw GQ.ae (by rw[hyl];have:=yS.ae.nw;omega) xP.ae yS.ae.pl.ok.cols yS.ae.rr).mono ?_;rintro e w3 ⟨v3,rfl,ho3,b3⟩;have NZ:=aa ho3;have tq:=aa b3;have Xo:=aa (Rb cols q.bT rows);have JH:=aa (Below.trans fG.ae (b3.mono fG.ae.size));clear ho3 b3 hyl;obtain⟨e0,hK4⟩:∃e0,e0=(bZ cols q.bT (rows.map (·.l))).2:=⟨_,rfl⟩;rw[<- hK4] at HR ⊢;rw[<- Xo.ae] at HR;clear hK4;go_wp2_with fail;refine CH.ae _ _ ?_;clear CH;refine wp_seq_k λ K5 hK5=>?_
     have HK5:=aa hK5;clear hK5;have d0:=(wA.ae.later JH.ae).cell 0;simp only[getElem?_toArray,getElem?_cons_zero] at d0;go_wp2_with fail;refine HK5.ae _ _ ?_;clear HK5 d0;have aDi:=aa (Below.trans Q4.ae (JH.ae.mono Q4.ae.size));have awb:=aa (HF.ae.later JH.ae);have awc:=aa (Below.trans uS.ae (JH.ae.mono uS.ae.size));have zA:(fK (dz cols q.bT) rows).length<=300:=Nat.le_trans (length_filter_le _ _) HQ.ae.rn;have aeo:∀x∈fK (dz cols q.bT) rows,wR w3 x:=λ x q3=>by have q3:=(List.mem_filter.1 q3).1;obtain⟨i,hi,he⟩:=getElem_of_mem q3;obtain⟨_,_,_,_,_,hv⟩:=yS.ae.rr.at_ hi;rw[he] at hv;have hv3:RV w3 w3.heap.size x.A x.l:=hv.later tq.ae;exact⟨hv3,HQ.ae.each x q3⟩
     have hsm:=HQ.ae.sm (JF Q3.ae);have hln:=Q1.ae.ln
     have JZ:=λ T hT a3 a6 a8 a9 FH H7=>V3 w0 g3 g6 gp q L p cols CA cc yg ya yi yh yo AA ac VA vc HA hc IA ic JA jc DA dc e0 (fK (dz cols q.bT) rows) w2.heap.size v3 T hT a3 a6 a8 a9 FH H7 [] w3 (bodyPost Tryz.prog Tryz.f11 (DF q cols (rows.map (·.l)) w0)) awb.ae Q1.ae HFN.ae HQ.ae.pl.qg HQ.ae.ng WC WC (by have:=HQ.ae.cl;omega) (by rw[Q1.ae.lh];have:=HQ.ae.nh;omega) HQ.ae.ni HQ.ae.no Xn.ae.pl.io Xn.ae.qy.l (λ n hn=>⟨V6 Q3.ae n hn,HQ.ae.lim n hn⟩) (WR Q3.ae) awc.ae (tx.ae.later JH.ae) (zW.ae.later JH.ae) awa.ae NZ.ae aeo zA
      (λ er hr hne a W e1 e2 e3 VG q4=>⟨e1,_,JE e2 e3 VG,by
        unfold DF
        rw[HR.ae,hr]
        exact⟨q4,hne,rfl⟩⟩)
      (λ la hr a W ov out e1 e2 e3 VG oW hk DY q4 gW=>⟨e1,_,JE e2 e3 VG,by
        unfold DF
        rw[HR.ae,hr]
        have hlen:out.length=la.length:=by rw[<- DY,length_map]
        rw[hlen]
        have hh:=(IH.ae.later JH.ae).grown gW ((IH.ae.later JH.ae).other (zW.ae.later JH.ae) Taa)
        exact⟨q4,HA,hc,ov,out,rfl,hh.down HB.ae.size,oW,hk,DY⟩⟩)
     simp only[ez,fA,Tryz.f11,Option.getD_some] at JZ;exact JZ _ rfl rfl rfl rfl rfl rfl rfl
theorem zis.Kcr(h:p:=by
 have t2:T.getD 2 undef=.slice RA rows.length rc:=by rw[JV];simp[Array.getD_eq_getD_getElem?]
 clear JV;exact aet q L CA cc cols RA rc rows T hT t0 t1 t2 w0 hq):p:=h
theorem JI (q:Qy)(L:QL)(CA:Option Addr)(cc:Nat)(cols:List aW)(RA:Option Addr)(rc:Nat)(rows:List aX)(w0:World)(hq:JG w0 q L CA cc cols RA rows):
  ar 11 #[mM q L,.slice CA cols.length cc,.slice RA rows.length rc] w0 (DF q cols (rows.map (·.l)) w0):=by
 refine calls_of_wp Tryz.func11 aer ?_;obtain⟨T,JV⟩:∃T:Array Value,T= #[mM q L,.slice CA cols.length cc,.slice RA rows.length rc]++Array.replicate (Tryz.f11.ntmps - (#[mM q L,.slice CA cols.length cc,.slice RA rows.length rc]:Array Value).size) undef:=⟨_,rfl⟩;rw[<- JV];have hT:T.size=183:=by rw[JV];exact aes _ _ _
 open zis in exact Zht
mutual
def Tr.small:Tr->Prop
 | .mk op v name width args=>name.size<=1048576/\v.s.size<=1048576/\Tr.smalls args
def Tr.smalls:List Tr->Prop
 | []=>True
 | t::ts=>t.small/\Tr.smalls ts
end
theorem iq:∀ {a b:List Tr},Tr.smalls a->Tr.smalls b->Tr.smalls (a++b)
 | [],b,_,h=>h
 | t::a,b,h,k=>by unfold Tr.smalls at h;show Tr.smalls (t::(a++b));unfold Tr.smalls;exact⟨h.1,iq h.2 k⟩
variable{x:Int}
theorem eK(h0:0<=x)(h1:x < 9223372036854775808):wrap64 x=x:=by unfold wrap64;omega
mutual
theorem size_grow:∀(t:Tr),t.small->(Tr.aQ t.args<=1099511627776)->0<=Tr.dC 0 t.args/\Tr.dC 0 t.args<=Tr.aQ t.args*1048576/\(Tr.dC 0 t.args < 2000->(Tr.aQ t.args:Int)<=Tr.dC 0 t.args)
 | .mk op v name width args,h=>by intro hn;unfold Tr.small at h;replace hn:Tr.aQ args<=1099511627776:=hn;have k:=uM args h.2.2 0 (Int.le_refl _) hn WC;show 0<=Tr.dC 0 args/\Tr.dC 0 args<=Tr.aQ args*1048576/\(Tr.dC 0 args < 2000->(Tr.aQ args:Int)<=Tr.dC 0 args);obtain⟨k1,k2,k3⟩:=k;refine⟨k1,by omega,λ h=>?_⟩;have:=k3 h;omega
theorem uM:∀(ts:List Tr),Tr.smalls ts->∀(n:Int),0<=n->Tr.aQ ts<=1099511627776->n<=2305843009213693952 - (Tr.aQ ts:Int)*1048576->n<=Tr.dC n ts/\Tr.dC n ts<=n+Tr.aQ ts*1048576/\(Tr.dC n ts < 2000->n+Tr.aQ ts<=Tr.dC n ts)
 | [],_=>by intro n h0 _ _;unfold Tr.dC Tr.aQ;exact⟨Int.le_refl _,by omega,λ _=>by omega⟩
 | t::ts,h=>by
   intro n h0 hn hm;unfold Tr.smalls at h;have ht:=size_grow t h.1;have hs:=uM ts h.2;obtain⟨op,v,name,width,args⟩:=t;have hd:Tr.aQ (.mk op v name width args::ts)=Tr.aQ args+1+Tr.aQ ts:=rfl;rw[hd] at hn hm ⊢;have h1:=h.1;unfold Tr.small at h1;have ht:Tr.aQ args<=1099511627776->0<=Tr.dC 0 args/\Tr.dC 0 args<=Tr.aQ args*1048576/\(Tr.dC 0 args < 2000->(Tr.aQ args:Int)<=Tr.dC 0 args):=ht;obtain⟨a1,a2,a3⟩:=ht WC;have e:Tr.dC n (.mk op v name width args::ts)=if n < 2000 then Tr.dC (Bj n name.size v.s.size (Tr.dC 0 args)) ts else n:=by conv=>lhs;unfold Tr.dC
   rw[e];by_cases hlt:n < 2000
   ·rw[if_pos hlt];generalize Tr.dC 0 args=m at*;have hse:∃z:Int,Bj n name.size v.s.size m=n+1+z+m/\0<=z/\z<=1000000:=by refine⟨(name.size:Int)/ 5000*2000+(v.s.size:Int)/ 5000*2000,?_,by omega,by omega⟩;unfold Bj;rw[eK (x:=n+1) WC WC,eK (x:=(name.size:Int)/ 5000) WC WC,eK (x:=(name.size:Int)/ 5000*2000) WC WC,eK (x:=(v.s.size:Int)/ 5000) WC WC,eK (x:=(v.s.size:Int)/ 5000*2000) WC WC,eK (x:=n+1+(name.size:Int)/ 5000*2000) WC WC,eK (x:=n+1+(name.size:Int)/ 5000*2000+(v.s.size:Int)/ 5000*2000) WC WC,eK WC WC];omega
    obtain⟨z,hz,z0,z1⟩:=hse;rw[hz];obtain⟨b1,b2,b3⟩:=hs (n+1+z+m) WC WC WC;refine⟨by omega,by omega,λ hf=>?_⟩;have:=b3 hf;have:=a3 WC;omega
   ·rw[if_neg hlt];exact⟨Int.le_refl _,by omega,λ hf=>absurd hf hlt⟩
end
theorem MZ(hs:Tr.smalls ts)(hn:Tr.aQ ts<=1099511627776)(h:Tr.dC 0 ts<=300):Tr.aQ ts<=300:=by have:=(uM ts hs 0 (Int.le_refl _) hn WC).2.2 WC;omega
theorem jS (a b:List Tr):Tr.aQ (a++b)=Tr.aQ a+Tr.aQ b:=by rw[fW,fW,fW,map_append,sum_append]
theorem pL (q:Qy):Tr.aQ q.all=Tr.aQ (q.items.map (·.1))+(Tr.aQ q.bT+Tr.aQ q.aL+Tr.aQ q.fq)+Tr.aQ (q.ord.map (·.1)):=by unfold Qy.all;rw[jS,jS,jS,jS]
structure Few (q:Qy):Prop where
 g:q.aL.length<=40
 w:q.bT.length<=40
 h:q.fq.length<=40
 i:q.items.length<=40
 o:q.ord.length<=40
 nodes:Tr.aQ q.all<=320
 lim:∀n∈q.lim,n<=9223372036854775807
structure CR (w:World) (CA:Option Addr) (cols:List aW) (RA:Option Addr) (rows:List aX):Prop where
 env:zH w
 cr:RC w w.heap.size CA cols
 cl:cols.length<=20
 rr:RR w w.heap.size RA rows
 rn:rows.length<=100
 each:∀r∈rows,r.l.length<=30/\∀v∈r.l,v.Ok
theorem CR.later{w:World}    (h:CR w CA cols RA rows)(hb:aj w w'):CR w' CA cols RA rows:=
 ⟨h.env.later hb,h.cr.later hb,h.cl,h.rr.later hb,h.rn,h.each⟩
theorem pM{w:World}   (cc:Nat)   (EO:nQ w q L)(ok:q.Ok)(f:Few q)(c:CR w CA cols RA rows):JG w q L CA cc cols RA rows:=by have hn:=f.nodes;rw[pL] at hn;have h1:=f.g;have h2:=f.w;have h3:=f.h;have h4:=f.i;have h5:=f.o;have h6:=c.cl;have h7:=c.rn;refine⟨EO,ok,⟨⟨c.env,EO.g,ok.g,by show q.aL.length<=1000000;omega,c.cr,by show cols.length<=1000000;omega⟩,ok.w,EO.w,by omega,ok.g,EO.g,by omega,ok.i,EO.i,by omega,by omega,ok.h,EO.h,by omega,ok.o,EO.o,by omega,λ _=>by omega⟩,by omega,c.rr,λ r hr=>⟨by have:=(c.each r hr).1;omega,(c.each r hr).2⟩,by omega,by omega,by omega,by omega,by omega,by omega,λ _=>by omega,f.lim⟩
def aqt (w:World)(hd:List aW)(la:List (List Val))(e:Ending)(w':World):Prop:=∃HA hc OA oc out,e=.returned (.tuple #[.agg #[.slice HA hd.length hc,.slice OA (List.length out) oc,af la.length],af 0])/\RC w' w'.heap.size HA hd/\RR w' w'.heap.size OA out/\out.map (·.l)=la/\aj w w'
variable{la:List (List Val)}
theorem Re{w:World}      (rc:Nat) (h:JG w q L CA cc cols RA rows)  (hr:iD q cols (rows.map (·.l))=.ok (hd,la)):
  ar 11 #[mM q L,.slice CA cols.length cc,.slice RA rows.length rc] w (aqt w hd la):=by
 refine(JI q L CA cc cols RA rc rows w h).mono ?_;rintro e w1 ⟨hb,hk⟩;rw[hr] at hk;obtain⟨HA,hc,ov,out,rfl,h1,h2,h3,h4⟩:=hk;obtain⟨OA,oc,rfl,h5⟩:=Hc h2 λ r hr=>(h3 r hr).rv
 obtain⟨A',c',h6,h7⟩:=wQ h1;injection h6 with e1 e2 e3;subst e1;exact⟨HA,hc,OA,oc,out,rfl,h7,h5,h4,hb⟩
theorem aeu{w:World}      (rc:Nat) (h:JG w q L CA cc cols RA rows) (hr:iD q cols (rows.map (·.l))=.error er):
  ar 11 #[mM q L,.slice CA cols.length cc,.slice RA rows.length rc] w λ e w'=>er≠0/\e=.returned (.tuple #[.agg #[az,az,af 0],af er])/\aj w w':=by refine(JI q L CA cc cols RA rc rows w h).mono ?_;rintro e w1 ⟨hb,hk⟩;rw[hr] at hk;exact⟨hk.1,hk.2,hb⟩
theorem ajw:(fl R.XJ).Ok:=by refine⟨?_,?_,?_,?_,?_,by decide,by decide,by decide,by decide,by decide⟩<;> simp[R.XJ,fl,gK,pZ,Tr.cL,Tr.ok,Val.Ok,Gf,R.rN,R.kV,R.kT,R.Ao,R.ua,R.sZ,R.jH]
theorem aev:Few (fl R.XJ):=by refine⟨by decide,by decide,by decide,by decide,by decide,by decide,?_⟩;intro n hn;simp[R.XJ,fl] at hn
theorem ajx:(fl R.XK).Ok:=by refine⟨?_,?_,?_,?_,?_,by decide,by decide,by decide,by decide,by decide⟩<;> simp[R.XK,fl,gK,pZ,Tr.cL,Tr.ok,Val.Ok,Gf,R.rN,R.kV,R.kT,R.Ao,R.ua,R.sZ,R.jH]
theorem aew:Few (fl R.XK):=by refine⟨by decide,by decide,by decide,by decide,by decide,by decide,?_⟩;intro n hn;simp[R.XK,fl] at hn;omega
theorem ajy:(fl R.M9).Ok:=by refine⟨?_,?_,?_,?_,?_,by decide,by decide,by decide,by decide,by decide⟩<;> simp[R.M9,fl,gK,pZ,Tr.cL,Tr.ok,Val.Ok,Gf,R.rN,R.kV,R.kT,R.Ao,R.ua,R.sZ,R.jH]
theorem aex:Few (fl R.M9):=by refine⟨by decide,by decide,by decide,by decide,by decide,by decide,?_⟩;intro n hn;simp[R.M9,fl] at hn
theorem ajz:(fl R.XL).Ok:=by refine⟨?_,?_,?_,?_,?_,by decide,by decide,by decide,by decide,by decide⟩<;> simp[R.XL,fl,gK,pZ,Tr.cL,Tr.ok,Val.Ok,Gf,R.rN,R.kV,R.kT,R.Ao,R.ua,R.sZ,R.jH]
theorem aey:Few (fl R.XL):=by refine⟨by decide,by decide,by decide,by decide,by decide,by decide,?_⟩;intro n hn;simp[R.XL,fl] at hn
theorem V7{w:World}  (hE:zH w)(h1:RC w w.heap.size CA ml)(h2:RR w w.heap.size RA rs)(h3:rs.map (·.l)=wH):CR w CA ml RA rs:=by
 have hl:rs.length=3:=by have:=congrArg List.length h3;simpa [wH] using this
 refine⟨hE,h1,by decide,h2,by omega,λ r hr=>?_⟩;have hm:r.l∈wH:=by rw[<- h3];exact List.mem_map.2 ⟨r,hr,rfl⟩
 simp only[wH,mem_cons,not_mem_nil,or_false] at hm;rcases hm with h | h | h <;> rw[h] <;> refine⟨by decide,λ v hv=>?_⟩<;> simp only[mem_cons,not_mem_nil,or_false] at hv <;> rcases hv with rfl | rfl <;> exact⟨by decide,by decide⟩
variable{out:List aX}
theorem uN(h:out.map (·.l)=la)(h1:la.length<=1000)(h2:∀r∈la,r.length<=1000):out.length<=1000/\∀r∈out,r.l.length<=1000:=by subst h;exact⟨by simpa using h1,λ r hr=>h2 _ (List.mem_map.2 ⟨r,hr,rfl⟩)⟩
theorem ajA{w:World} {g:Nat} {a:Int}(h:aB w g 44 #[ag 2,af a,au]):RV w w.heap.size (some ⟨g,0,none⟩) [num a]:=by
 refine .inr ⟨_,0,rfl,h.lt,λ i x hx=>?_⟩
 match i,hx with
 | 0,hx=>exact Zg4
 | n+1,hx=>cases hx
variable{z:Int}
theorem V8(OA:Option Addr)(oc:Nat)(out:List aX)(g a b:Nat) {y u:Int}(w:World)(ho:RR w w.heap.size OA out)(hm:out.map (·.l)=[[num x,num y],[num z,num u]])(hs:out.length<=1000/\∀r∈out,r.l.length<=1000)(k0:aB w g 38 #[aI a 2 2,aI b 2 2])(k1:aB w a 44 #[ag 2,af x,au,ag 2,af y,au])(k2:aB w b 44 #[ag 2,af z,au,ag 2,af u,au]):
  ar 26 #[.slice OA out.length oc,aI g 2 2] w λ e w'=>e=.returned (.bool true)/\aj w w':=by
 refine DD OA oc out (some ⟨g,0,none⟩) 2 [⟨some ⟨a,0,none⟩,[num x,num y],2⟩,⟨some ⟨b,0,none⟩,[num z,num u],2⟩] w ho ?_ hm hs.1 hs.2;refine .inr ⟨_,0,rfl,k0.lt,λ i r hx=>?_⟩
 match i,hx with
 | 0,hx=>injection hx with hx;subst hx;exact⟨k0.cell 0,Dd k1⟩
 | 1,hx=>injection hx with hx;subst hx;exact⟨k0.cell 1,Dd k2⟩
 | n+2,hx=>cases hx
theorem Na(OA:Option Addr)(oc:Nat)(out:List aX)(g a:Nat) (w:World)(ho:RR w w.heap.size OA out)(hm:out.map (·.l)=[[num x]])(hs:out.length<=1000/\∀r∈out,r.l.length<=1000)(k0:aB w g 38 #[aI a 1 1])(k1:aB w a 44 #[ag 2,af x,au]):
  ar 26 #[.slice OA out.length oc,aI g 1 1] w λ e w'=>e=.returned (.bool true)/\aj w w':=by
 refine DD OA oc out (some ⟨g,0,none⟩) 1 [⟨some ⟨a,0,none⟩,[num x],1⟩] w ho ?_ hm hs.1 hs.2;refine .inr ⟨_,0,rfl,k0.lt,λ i r hx=>?_⟩
 match i,hx with
 | 0,hx=>injection hx with hx;subst hx;exact⟨k0.cell 0,ajA k1⟩
 | n+1,hx=>cases hx
def wkV (qa qb qd:Nat)(OA0:Option Addr)(n0 oc0:Nat)(OA1:Option Addr)(n1 oc1:Nat)(OA3:Option Addr)(n3 oc3:Nat):Nat->World->Value->Prop
 | 0,_,v=>v=af 0
 | 1,_,v=>v=.bool true
 | 2,_,v=>v=.bool true
 | 3,_,v=>v=ba qa 1
 | 4,_,v=>v=.slice OA0 n0 oc0
 | 5,_,v=>v=.agg #[ag 2,af 0,au]
 | 6,_,v=>v=.agg #[ag 2,af 12,au]
 | 7,w,v=>∃g:Nat,v=aI g 2 2/\aB w g 44 #[ag 2,af 0,au,ag 2,af 12,au]
 | 8,_,v=>v=.agg #[ag 2,af 5,au]
 | 9,_,v=>v=.agg #[ag 2,af 1,au]
 | 10,w,v=>∃g:Nat,v=aI g 2 2/\aB w g 44 #[ag 2,af 5,au,ag 2,af 1,au]
 | 11,w,v=>∃g a b:Nat,v=aI g 2 2/\aB w g 38 #[aI a 2 2,aI b 2 2]/\aB w a 44 #[ag 2,af 0,au,ag 2,af 12,au]/\aB w b 44 #[ag 2,af 5,au,ag 2,af 1,au]
 | 12,_,v=>v=.bool true
 | 13,_,v=>v=.bool true
 | 14,_,v=>v=.bool true
 | 15,_,v=>v=af 0
 | 16,_,v=>v=.bool true
 | 17,_,v=>v=.bool true
 | 18,_,v=>v=.bool true
 | 19,_,v=>v=ba qb 2
 | 20,_,v=>v=af 1
 | 21,_,v=>v=.bool true
 | 22,_,v=>v=.bool true
 | 23,_,v=>v=.bool true
 | 24,_,v=>v=ba qb 1
 | 25,_,v=>v=.slice OA1 n1 oc1
 | 26,_,v=>v=.agg #[ag 2,af 7,au]
 | 27,w,v=>∃g:Nat,v=aI g 1 1/\aB w g 44 #[ag 2,af 7,au]
 | 28,w,v=>∃g a:Nat,v=aI g 1 1/\aB w g 38 #[aI a 1 1]/\aB w a 44 #[ag 2,af 7,au]
 | 29,_,v=>v=.bool true
 | 30,_,v=>v=.bool true
 | 31,_,v=>v=.bool true
 | 32,_,v=>v=af 42
 | 33,_,v=>v=.bool true
 | 34,_,v=>v=.bool true
 | 35,_,v=>v=.bool true
 | 36,_,v=>v=af 0
 | 37,_,v=>v=.bool true
 | 38,_,v=>v=.bool true
 | 39,_,v=>v=.bool true
 | 40,_,v=>v=ba qd 1
 | 41,_,v=>v=.slice OA3 n3 oc3
 | 42,_,v=>v=.agg #[ag 2,af 0,au]
 | 43,w,v=>∃g:Nat,v=aI g 1 1/\aB w g 44 #[ag 2,af 0,au]
 | 44,w,v=>∃g a:Nat,v=aI g 1 1/\aB w g 38 #[aI a 1 1]/\aB w a 44 #[ag 2,af 0,au]
 | 45,_,v=>v=.bool true
 | 46,_,v=>v=.bool true
 | _,_,_=>False
theorem WS (qa qb qd:Nat)(OA0:Option Addr)(n0 oc0:Nat)(OA1:Option Addr)(n1 oc1:Nat)(OA3:Option Addr)(n3 oc3:Nat):∀i w w' v,wkV qa qb qd OA0 n0 oc0 OA1 n1 oc1 OA3 n3 oc3 i w v->ai w w'->wkV qa qb qd OA0 n0 oc0 OA1 n1 oc1 OA3 n3 oc3 i w' v:=by
 intro i w w' v h hl
 match i with
 | 0 | 1 | 2 | 3 | 4 | 5 | 6 | 8 | 9 | 12 | 13 | 14 | 15 | 16 | 17 | 18 | 19 | 20 | 21 | 22 | 23 | 24 | 25 | 26 | 29 | 30 | 31 | 32 | 33 | 34 | 35 | 36 | 37 | 38 | 39 | 40 | 41 | 42 | 45 | 46=>exact h
 | 7=>exact ZeL
 | 10=>exact ZeL
 | 11=>obtain⟨g,a,b,h1,f0,f1,f2⟩:=h;exact⟨g,a,b,h1,f0.later hl,f1.later hl,f2.later hl⟩
 | 27=>exact ZeL
 | 28=>exact ZgX
 | 43=>exact ZeL
 | 44=>exact ZgX
 | n+47=>exact h
theorem zdD.KaI(h:p:=by have h0:_=_:=hr.1;have Kx:=(JW.ae.later hL).cell 1;exact ZaO):p:=h
theorem zdE.KaI(h:p:=by exact Zem):p:=h
theorem zdF.KaI(h:p:=by have e1:=hc.func 27;have e2:=hc.const (af 12);refine bu (f:=27) (args:= #[af 12]) (w':=w3) TaB ?_;refine(fE 12 w3).mono ?_;exact Zbg):p:=h
theorem zdG.KaI(h:p:=by have h0:_=_:=hr.1;have h1:_=_:=hr.2.1;exact aq (v:=aI w3.heap.size 2 2) (w':=w3.alloc (.cells #[ag 2,af 0,au,ag 2,af 12,au] 44)) Tav ⟨ah w3 _,⟨_,rfl,aB.new w3 _ _⟩⟩):p:=h
theorem zdH.KaI(h:p:=by have e1:=hc.func 27;have e2:=hc.const (af 5);refine bu (f:=27) (args:= #[af 5]) (w':=w3) TaB ?_;refine(fE 5 w3).mono ?_;exact Zbg):p:=h
theorem zdI.KaI(h:p:=by have e1:=hc.func 27;have e2:=hc.const (af 1);refine bu (f:=27) (args:= #[af 1]) (w':=w3) TaB ?_;refine(fE 1 w3).mono ?_;exact Zbg):p:=h
theorem zdJ.KaI(h:p:=by have h0:_=_:=hr.1;have h1:_=_:=hr.2.1;exact aq (v:=aI w3.heap.size 2 2) (w':=w3.alloc (.cells #[ag 2,af 5,au,ag 2,af 1,au] 44)) Tav ⟨ah w3 _,⟨_,rfl,aB.new w3 _ _⟩⟩):p:=h
theorem zdK.KaI(h:p:=by obtain⟨g0,h0,fQ⟩:∃g:Nat,ρ (.tmp 50)=aI g 2 2/\aB w3 g 44 #[ag 2,af 0,au,ag 2,af 12,au]:=hr.1;obtain⟨g1,h1,ux⟩:∃g:Nat,ρ (.tmp 53)=aI g 2 2/\aB w3 g 44 #[ag 2,af 5,au,ag 2,af 1,au]:=hr.2.1;exact aq (v:=aI w3.heap.size 2 2) (w':=w3.alloc (.cells #[aI g0 2 2,aI g1 2 2] 38)) Tav ⟨ah w3 _,⟨w3.heap.size,g0,g1,rfl,aB.new w3 _ _,fQ.later (ah _ _),ux.later (ah _ _)⟩⟩):p:=h
theorem zdL.KaI(h:p:=by have h0:_=_:=hr.1;obtain⟨g1,a1,hB,h1,ux,Jj,awe⟩:∃g a b:Nat,ρ (.tmp 54)=aI g 2 2/\aB w3 g 38 #[aI a 2 2,aI b 2 2]/\aB w3 a 44 #[ag 2,af 0,au,ag 2,af 12,au]/\aB w3 b 44 #[ag 2,af 5,au,ag 2,af 1,au]:=hr.2.1;have e1:=hc.func 26;refine bu (f:=26) (args:= #[.slice OA0 X0.length oc0,aI g1 2 2]) (w':=w3) Tar ?_;refine(V8 OA0 oc0 X0 g1 a1 hB w3 (HC.ae.later hL) HM0.ae HS0.ae ux Jj awe).mono ?_;exact Zbg):p:=h
theorem zfC.Kbm(h:p:=by have h0:_=_:=hr.1;have Kx:=(K3.ae.later hL).cell 1;exact ZaO):p:=h
theorem zfD.Kbm(h:p:=by have e1:=hc.func 27;have e2:=hc.const (af 7);refine bu (f:=27) (args:= #[af 7]) (w':=w3) TaB ?_;refine(fE 7 w3).mono ?_;exact Zbg):p:=h
theorem zfE.Kbm(h:p:=by have h0:_=_:=hr.1;exact aq (v:=aI w3.heap.size 1 1) (w':=w3.alloc (.cells #[ag 2,af 7,au] 44)) Taq ⟨ah w3 _,⟨_,rfl,aB.new w3 _ _⟩⟩):p:=h
theorem zfF.Kbm(h:p:=by obtain⟨g0,h0,fQ⟩:∃g:Nat,ρ (.tmp 70)=aI g 1 1/\aB w3 g 44 #[ag 2,af 7,au]:=hr.1;exact Zee):p:=h
theorem zfG.Kbm(h:p:=by have h0:_=_:=hr.1;obtain⟨g1,a1,h1,ux,Jj⟩:∃g a:Nat,ρ (.tmp 71)=aI g 1 1/\aB w3 g 38 #[aI a 1 1]/\aB w3 a 44 #[ag 2,af 7,au]:=hr.2.1;have e1:=hc.func 26;refine bu (f:=26) (args:= #[.slice OA1 X5.length oc1,aI g1 1 1]) (w':=w3) Tar ?_;refine(Na OA1 oc1 X5 g1 a1 w3 (Q3.ae.later hL) HM1.ae wZ.ae ux Jj).mono ?_;exact Zbg):p:=h
theorem zfH.Kbn(h:p:=by have h0:_=_:=hr.1;have Kx:=(R3.ae.later hL).cell 1;exact ZaO):p:=h
theorem zfI.Kbn(h:p:=by exact Zem):p:=h
theorem zfJ.Kbn(h:p:=by have h0:_=_:=hr.1;exact aq (v:=aI w3.heap.size 1 1) (w':=w3.alloc (.cells #[ag 2,af 0,au] 44)) Taq ⟨ah w3 _,⟨_,rfl,aB.new w3 _ _⟩⟩):p:=h
theorem zfK.Kbn(h:p:=by obtain⟨g0,h0,fQ⟩:∃g:Nat,ρ (.tmp 86)=aI g 1 1/\aB w3 g 44 #[ag 2,af 0,au]:=hr.1;exact Zee):p:=h
theorem zfL.Kbn(h:p:=by have h0:_=_:=hr.1;obtain⟨g1,a1,h1,ux,Jj⟩:∃g a:Nat,ρ (.tmp 87)=aI g 1 1/\aB w3 g 38 #[aI a 1 1]/\aB w3 a 44 #[ag 2,af 0,au]:=hr.2.1;have e1:=hc.func 26;refine bu (f:=26) (args:= #[.slice OA3 X6.length oc3,aI g1 1 1]) (w':=w3) Tar ?_;refine(Na OA3 oc3 X6 g1 a1 w3 (NZ.ae.later hL) HM3.ae HS3.ae ux Jj).mono ?_;exact Zbg):p:=h
theorem ziy.Kcu(h:p:=by
 have V9:=aa (pM cc hq ajy aex HX.ae);clear hq hB;go_wp2_with fail;refine(aeu rc V9.ae (by rw[HK.ae];exact adn)).mono ?_;rintro e4 w4 ⟨_,rfl,b2⟩;replace HX:=aa (HX.ae.later b2);replace HC:=aa (HC.ae.later b2);replace JW:=aa (JW.ae.later b2);replace Q3:=aa (Q3.ae.later b2);replace K3:=aa (K3.ae.later b2);replace HB:=aa (ai.then HB.ae b2);clear b2 V9;go_wp2_with fail;have b3:=ah w4 (.cells #[az,az,af 0] 33);have R2:=aa (aB.new w4 33 #[az,az,af 0]);replace HB:=aa (ai.then HB.ae b3);replace HX:=aa (HX.ae.later b3);replace HC:=aa (HC.ae.later b3);replace JW:=aa (JW.ae.later b3);replace Q3:=aa (Q3.ae.later b3);replace K3:=aa (K3.ae.later b3);clear b3;generalize w4.alloc _=wz3 at*;generalize w4.heap.size=qc at*;refine(sT t3B R.XL Taa apj _).mono ?_;rintro e4 wa ⟨L,rfl,hq,hB⟩;replace HX:=aa (HX.ae.later hB);replace HC:=aa (HC.ae.later hB);replace JW:=aa (JW.ae.later hB);replace Q3:=aa (Q3.ae.later hB);replace K3:=aa (K3.ae.later hB);replace R2:=aa (R2.ae.later hB);replace HB:=aa (ai.then HB.ae hB);have V9:=aa (pM cc hq ajz aey HX.ae);clear hq hB;go_wp2_with fail;refine(Re rc V9.ae (by rw[HK.ae];exact adp)).mono ?_;rintro e4 w5 ⟨Pz,hc3,OA3,oc3,X6,rfl,_,ho,he,b2⟩;replace HX:=aa (HX.ae.later b2);replace HC:=aa (HC.ae.later b2);replace JW:=aa (JW.ae.later b2);replace Q3:=aa (Q3.ae.later b2);replace K3:=aa (K3.ae.later b2);replace R2:=aa (R2.ae.later b2);replace HB:=aa (ai.then HB.ae b2);have NZ:=aa ho;have HM3:=aa he;have HS3:=aa (uN he Taa Taa);clear ho he b2 V9;go_upto_region 6 with fail
 have b3:=ah w5 (.cells #[.slice Pz QC.length hc3,.slice OA3 X6.length oc3,af 1] 33);have R3:=aa (aB.new w5 33 #[.slice Pz QC.length hc3,.slice OA3 X6.length oc3,af 1]);replace HB:=aa (ai.then HB.ae b3);replace HX:=aa (HX.ae.later b3);replace HC:=aa (HC.ae.later b3);replace JW:=aa (JW.ae.later b3);replace Q3:=aa (Q3.ae.later b3);replace K3:=aa (K3.ae.later b3);replace R2:=aa (R2.ae.later b3);replace NZ:=aa (NZ.ae.later b3);clear b3;generalize w5.alloc _=W9 at*;generalize w5.heap.size=qd at*;refine bA 47 (wkV qa qb qd OA0 X0.length oc0 OA1 X5.length oc1 OA3 X6.length oc3) (WS _ _ _ _ _ _ _ _ _ _ _ _) Va Va Va ?_ ?_
 ·simp only[take_succ_cons,take_zero];refine⟨Z1,Z1,Z1,?_,?_,?_,?_,?_,?_,?_,?_,?_,?_,ZdT,Z1,ZgG,ZgG,ZdT,Z1,ZgH,?_,ZgH,ZdT,Z1,?_,?_,?_,?_,?_,?_,ZdT,Z1,ZgI,ZgI,ZdT,Z1,ZgJ,ZgJ,ZdT,Z1,?_,?_,?_,?_,?_,?_,ZdT,trivial⟩
  ·intro ρ w3 hc hL hr;intro hg;have hg:ρ (.tmp 45)=.bool true:=hg;exact Zah
  ·open zdD in exact ZbP
  ·open zdE in exact ZbP
  ·open zdF in exact ZbP
  ·open zdG in exact ZbP
  ·open zdH in exact ZbP
  ·open zdI in exact ZbP
  ·open zdJ in exact ZbP
  ·open zdK in exact ZbP
  ·open zdL in exact ZbP
  ·intro ρ w3 hc hL hr;intro hg;have hg:ρ (.tmp 61)=.bool true:=hg;refine⟨λ _=>?_,λ hn=>absurd hg hn⟩;have h0:_=_:=hr.1;have Kx:=(K3.ae.later hL).cell 2;exact ZaO
  ·intro ρ w3 hc hL hr;intro hg;have hg:ρ (.tmp 66)=.bool true:=hg;exact Zah
  ·open zfC in exact ZdB
  ·open zfD in exact ZdB
  ·open zfE in exact ZdB
  ·open zfF in exact ZdB
  ·open zfG in exact ZdB
  ·intro ρ w3 hc hL hr;intro hg;have hg:ρ (.tmp 82)=.bool true:=hg;exact Zah
  ·open zfH in exact ZdC
  ·open zfI in exact ZdC
  ·open zfJ in exact ZdC
  ·open zfK in exact ZdC
  ·open zfL in exact ZdC
 intro W3 hL;simp only[Uab];rintro a0 - a1 - a2 - a3 - a4 - a5 - a6 - a7 - a8 - a9 - FH - H7 - a12 - a13 - a14 - a15 - a16 - a17 - a18 - a19 - a20 - a21 - a22 - a23 - a24 - a25 - a26 - a27 - a28 - a29 - a30 - a31 - a32 - a33 - a34 - a35 - a36 - a37 - a38 - a39 - a40 - a41 - a42 - a43 - a44 - a45 - _ rfl;simp only[bD,Act.put,Uac];have hb3:=ai.then HB.ae hL;clear hL;go_wp2_with fail;go_ret;exact⟨rfl,hb3⟩):p:=h
theorem oh (w:World)(hE:zH w):ar 10 #[] w λ e4 w'=>e4=.returned (.bool true)/\aj w w':=by
 have HE:=aa hE;clear hE;go_enter Tryz.func10,Tryz.ntmps10;go_wp2_with fail;refine(VO w).mono ?_;rintro e4 w1 ⟨CA,cc,RA,rc,rs,rfl,h1,h2,h3,hB⟩;have HX:=aa (V7 (HE.ae.later hB) h1 h2 h3);have HK:=aa h3;have HB:=aa hB;clear h1 h2 h3 hB;go_wp2_with fail;refine(sT t0B R.XJ Taa apg _).mono ?_;rintro e4 wa ⟨L,rfl,hq,hB⟩;replace HX:=aa (HX.ae.later hB);replace HB:=aa (ai.then HB.ae hB);have V9:=aa (pM cc hq ajw aev HX.ae);clear hq hB;go_wp2_with fail;refine(Re rc V9.ae (by rw[HK.ae];exact adj)).mono ?_;rintro e4 w2 ⟨HA0,hc0,OA0,oc0,X0,rfl,_,ho,he,b2⟩;replace HX:=aa (HX.ae.later b2);replace HB:=aa (ai.then HB.ae b2);have HC:=aa ho;have HM0:=aa he;have HS0:=aa (uN he Taa Taa);clear ho he b2 V9;go_wp2_with fail;have b3:=ah w2 (.cells #[.slice HA0 QA.length hc0,.slice OA0 X0.length oc0,af 2] 33);have JW:=aa (aB.new w2 33 #[.slice HA0 QA.length hc0,.slice OA0 X0.length oc0,af 2]);replace HB:=aa (ai.then HB.ae b3);replace HX:=aa (HX.ae.later b3);replace HC:=aa (HC.ae.later b3);clear b3;generalize w2.alloc _=wz1 at*;generalize w2.heap.size=qa at*;refine(sT t1B R.XK Taa aph _).mono ?_;rintro e4 wa ⟨L,rfl,hq,hB⟩;replace HX:=aa (HX.ae.later hB);replace HC:=aa (HC.ae.later hB);replace JW:=aa (JW.ae.later hB);replace HB:=aa (ai.then HB.ae hB);have V9:=aa (pM cc hq ajx aew HX.ae);clear hq hB;go_wp2_with fail;refine(Re rc V9.ae (by rw[HK.ae];exact adl)).mono ?_;rintro e4 w3 ⟨P9,hc1,OA1,oc1,X5,rfl,_,ho,he,b2⟩;replace HX:=aa (HX.ae.later b2);replace HC:=aa (HC.ae.later b2)
 replace JW:=aa (JW.ae.later b2);replace HB:=aa (ai.then HB.ae b2);have Q3:=aa ho;have HM1:=aa he;have wZ:=aa (uN he Taa Taa);clear ho he b2 V9;go_wp2_with fail;have b3:=ah w3 (.cells #[.slice P9 QB.length hc1,.slice OA1 X5.length oc1,af 1] 33);have K3:=aa (aB.new w3 33 #[.slice P9 QB.length hc1,.slice OA1 X5.length oc1,af 1]);replace HB:=aa (ai.then HB.ae b3);replace HX:=aa (HX.ae.later b3);replace HC:=aa (HC.ae.later b3);replace JW:=aa (JW.ae.later b3);replace Q3:=aa (Q3.ae.later b3);clear b3;generalize w3.alloc _=wz2 at*;generalize w3.heap.size=qb at*;refine(sT t2B R.M9 Taa api _).mono ?_;rintro e4 wa ⟨L,rfl,hq,hB⟩;replace HX:=aa (HX.ae.later hB);open ziy in exact Zhw
def iH (r:Except Int (List aW×List (List Val)))(B:Nat)(w:World)(v:Value):Prop:=match r with
 | .error er=>er≠0/\v=.tuple #[.agg #[az,az,af 0],af er]
 | .ok (hd,la)=>∃HA hc OA oc out,v=.tuple #[.agg #[.slice HA hd.length hc,.slice OA (List.length out) oc,af la.length],af 0]/\aF aS 113 2 w B (.slice HA hd.length hc) hd/\aF bX 38 1 w B (.slice OA out.length oc) out/\(∀r∈out,bL w r.A r.l)/\out.map (·.l)=la
variable{r:Except Int (List aW×List (List Val))}
theorem iH.later{w:World} (h:iH r B w v)(hb:aj w w'):iH r B w' v:=by
 unfold iH at*;split at h
 ·exact h
 ·obtain⟨HA,hc,OA,oc,out,h1,h2,h3,h4,h5⟩:=h;exact⟨HA,hc,OA,oc,out,h1,h2.later hb,h3.later hb,λ r hr=>(h4 r hr).later hb,h5⟩
variable{cs:Array Value}
theorem iH.ajB{g:Nat} {w:World}   (h:iH r B w v)(hk:aB w g t cs)(Kx:t≠113)(KK:t≠38)(Lw:t≠44)(hg:w.grownBy w' (some g)):iH r B w' v:=by
 unfold iH at*;split at h
 ·exact h
 ·obtain⟨HA,hc,OA,oc,out,h1,h2,h3,h4,h5⟩:=h;refine⟨HA,hc,OA,oc,out,h1,h2.grown hg (h2.other hk Kx),h3.grown hg (h3.other hk KK),λ r hr=>(h4 r hr).keep hg.size λ b cur k1=>hg.block b k1.lt λ e=>?_,h5⟩;injection e with e;subst e;have:=k1.symm.trans hk;injection this with this;injection this with _ this _;exact absurd this.symm Lw
theorem iH.grown{g:Nat} {w:World}  (h:iH r B w v)(hk:aB w g 33 cs)(hg:w.grownBy w' (some g)):iH r B w' v:=h.ajB hk Taa Taa Taa hg
variable{ev:Value}
theorem zhk.KbY(h:p:=by
 obtain⟨A,c,e3,h6⟩:=wQ h2;injection e3 with e3 _ _;obtain⟨A',c',e4,h7⟩:=Hc h3 λ r hr=>(h4 r hr).rv
 injection e4 with e4 _ _;subst e3 e4;refine⟨HA,hc,OA,oc,out,?_,e2,h6,h7,h5⟩;rw[e1,<- h5,length_map]):p:=h
theorem iH.ok_{w:World}  (h:iH (.ok (hd,la)) B w (.tuple #[.agg cs,ev])):∃HA hc OA oc out,cs= #[.slice HA hd.length hc,.slice OA (List.length out) oc,af out.length]/\ev=af 0/\RC w w.heap.size HA hd/\RR w w.heap.size OA out/\out.map (·.l)=la:=by obtain⟨HA,hc,OA,oc,out,h1,h2,h3,h4,h5⟩:=h;open zhk in exact Zff
theorem zhl.KbY(h:p:=by exact⟨h0,e1,e2⟩):p:=h
theorem iH.X7{w:World}  (h:iH (.error er) B w (.tuple #[.agg cs,ev])):er≠0/\cs= #[az,az,af 0]/\ev=af er:=by obtain⟨h0,h1⟩:=h;open zhl in exact Zff
variable{B':Nat}
theorem iH.down{w:World} (h:iH r B w v)(hB:B'<=B):iH r B' w v:=by
 unfold iH at*;split at h
 ·exact h
 ·obtain⟨HA,hc,OA,oc,out,h1,h2,h3,h4,h5⟩:=h;exact⟨HA,hc,OA,oc,out,h1,h2.down hB,h3.down hB,h4,h5⟩
theorem iH.tri{w:World} (h:iH r B w v):∃(A1:Option Addr) (n1 c1:Nat) (A2:Option Addr) (n2 c2:Nat) (k:Int) (e:Value),v=.tuple #[.agg #[.slice A1 n1 c1,.slice A2 n2 c2,af k],e]:=by exact Ze0
theorem Nb{w:World}      (rc:Nat) (h:JG w q L CA cc cols RA rows):
  ar 11 #[mM q L,.slice CA cols.length cc,.slice RA rows.length rc] w λ e w'=>∃v,e=.returned v/\iH (iD q cols (rows.map (·.l))) w.heap.size w' v/\aj w w':=by
 refine(JI q L CA cc cols RA rc rows w h).mono ?_;rintro e w1 ⟨hb,hk⟩
 cases hr:iD q cols (rows.map (·.l))with
 | error er=>rw[hr] at hk;exact⟨_,hk.2,⟨hk.1,rfl⟩,hb⟩
 | ok x=>
   obtain⟨hd,la⟩:=x;rw[hr] at hk;obtain⟨HA,hc,ov,out,rfl,h1,h2,h3,h4⟩:=hk;obtain⟨OA,oc,rfl,_⟩:=Hc h2 λ r hr=>(h3 r hr).rv
   exact⟨_,rfl,⟨HA,hc,OA,oc,out,rfl,h1,h2,h3,h4⟩,hb⟩
def z33:Array Value:= #[az,az,af 0]
structure rT (W:World) (rows:List (List Val)) (r:Except Int (List aW×List (List Val))) (s3 s4 s5 s6 s7 s8 s9:Option Value) (w:World):Prop where
 low:aj W w
 own:s4=none->∀x,s3=some x->∃A c rs,x=.slice A (List.length rs) c/\RR w w.heap.size A rs/\rs.map (·.l)=rows
 run:∀x,s4=some x->iH r W.heap.size w x
 e4:s4.isSome=true->s3.isSome=true
 e5:∀x,s5=some x->s4=some x
 e6:∀x,s6=some x->∃y,s4=some (.tuple #[x,y])
 e7:∀x,s7=some x->∃y,s4=some (.tuple #[y,x])
 e9:s9.isSome=true->s8.isSome=true/\s4.isSome=true
 al:∀x,s8=some x->∃g,x=aw g/\W.heap.size<=g/\(s9=none->aB w g 33 z33)/\(s9.isSome=true->∃cs y,s4=some (.tuple #[.agg cs,y])/\aB w g 33 cs)
section
variable {W w w':World} {rows:List (List Val)} {r:Except Int (List aW×List (List Val))} {s3 s4 s5 s6 s7 s8 s9:Option Value}
theorem rT.start (W:World)(rows:List (List Val))(r:Except Int (List aW×List (List Val))):rT W rows r none none none none none none none W:=
 ⟨Below.refl _ _,λ _ x h=> Tad,λ x h=> Tad,λ h=> Tad,λ x h=> Tad,λ x h=> Tad,λ x h=> Tad,λ h=> Tad,λ x h=> Tad⟩
theorem rT.later (h:rT W rows r s3 s4 s5 s6 s7 s8 s9 w)(hb:aj w w'):rT W rows r s3 s4 s5 s6 s7 s8 s9 w':=
 ⟨Below.trans h.low (hb.mono h.low.size),λ h4 x hx=>by obtain⟨A,c,rs,k1,k2,k3⟩:=h.own h4 x hx;exact⟨A,c,rs,k1,k2.later hb,k3⟩,λ x hx=>(h.run x hx).later hb,h.e4,h.e5,h.e6,h.e7,h.e9,λ x hx=>by
   obtain⟨g,k1,k2,k3,k4⟩:=h.al x hx
   exact⟨g,k1,k2,λ h9=>(k3 h9).later hb,λ h9=>by obtain⟨cs,y,j1,j2⟩:=k4 h9;exact⟨cs,y,j1,j2.later hb⟩⟩⟩
theorem rT.awg (h:rT W rows r none s4 s5 s6 s7 s8 s9 w) {v:Value}(hb:aj w w')(ho:∃A c rs,v=.slice A (List.length rs) c/\RR w' w'.heap.size A rs/\rs.map (·.l)=rows):rT W rows r (some v) s4 s5 s6 s7 s8 s9 w':=by have k:=h.later hb;exact⟨k.low,λ _ x hx=>by injection hx with hx;rw[<- hx];exact ho,k.run,λ _=>rfl,k.e5,k.e6,k.e7,k.e9,k.al⟩
theorem rT.no9 (h:rT W rows r s3 none s5 s6 s7 s8 s9 w):s5=none/\s6=none/\s7=none/\s9=none:=by
 refine⟨?_,?_,?_,?_⟩
 ·cases h5:s5 with
  | none=>rfl
  | some x=>have:=h.e5 x h5;cases this
 ·cases h5:s6 with
  | none=>rfl
  | some x=>obtain⟨y,hy⟩:=h.e6 x h5;cases hy
 ·cases h5:s7 with
  | none=>rfl
  | some x=>obtain⟨y,hy⟩:=h.e7 x h5;cases hy
 ·cases h5:s9 with
  | none=>rfl
  | some x=>have:=(h.e9 (by rw[h5];rfl)).2;cases this
theorem rT.awh (h:rT W rows r s3 none s5 s6 s7 s8 s9 w) {v:Value}(hb:aj w w')(h3:s3.isSome=true)(hr:iH r W.heap.size w' v):rT W rows r s3 (some v) s5 s6 s7 s8 s9 w':=by obtain⟨rfl,rfl,rfl,rfl⟩:=h.no9;have k:=h.later hb;refine⟨k.low,λ e=> Tba,λ x hx=>(by injection hx with hx;rw[<- hx];exact hr),λ _=>h3,λ x hx=>(by cases hx),λ x hx=>(by cases hx),λ x hx=>(by cases hx),λ e=> Tba,λ x hx=>?_⟩;obtain⟨g,k1,k2,k3,_⟩:=k.al x hx;exact⟨g,k1,k2,k3,λ e=> Tba⟩
theorem rT.awi (h:rT W rows r s3 s4 none s6 s7 s8 s9 w) {v:Value}(h4:s4=some v):rT W rows r s3 s4 (some v) s6 s7 s8 s9 w:=
 ⟨h.low,h.own,h.run,h.e4,λ x hx=>by injection hx with hx;rw[<- hx];exact h4,h.e6,h.e7,h.e9,h.al⟩
theorem rT.awj (h:rT W rows r s3 s4 s5 none s7 s8 s9 w) {v y:Value}(h4:s4=some (.tuple #[v,y])):rT W rows r s3 s4 s5 (some v) s7 s8 s9 w:=
 ⟨h.low,h.own,h.run,h.e4,h.e5,λ x hx=>by injection hx with hx;rw[<- hx];exact⟨y,h4⟩,h.e7,h.e9,h.al⟩
theorem rT.awk (h:rT W rows r s3 s4 s5 s6 none s8 s9 w) {v y:Value}(h4:s4=some (.tuple #[y,v])):rT W rows r s3 s4 s5 s6 (some v) s8 s9 w:=
 ⟨h.low,h.own,h.run,h.e4,h.e5,h.e6,λ x hx=>by injection hx with hx;rw[<- hx];exact⟨y,h4⟩,h.e9,h.al⟩
theorem rT.vX (h:rT W rows r s3 s4 s5 s6 s7 none s9 w):rT W rows r s3 s4 s5 s6 s7 (some (aw w.heap.size)) s9 (w.alloc (.cells z33 33)):=by
 have h9:s9=none:=by
  cases h5:s9 with
  | none=>rfl
  | some x=>have:=(h.e9 (by rw[h5];rfl)).1;cases this
 subst h9;have k:=h.later (ah w (.cells z33 33));exact⟨k.low,k.own,k.run,k.e4,k.e5,k.e6,k.e7,λ e=> Tba,λ x hx=>by injection hx with hx;exact⟨w.heap.size,hx.symm,h.low.size,λ _=>aB.new w _ _,λ e=> Tba⟩⟩
theorem rT.awl (h:rT W rows r s3 s4 s5 s6 s7 s8 none w) {g:Nat} {x y c e:Value}(h8:s8=some (aw g))(h4:s4=some (.tuple #[.agg #[x,y,c],e]))(u:Value):
  rT W rows r s3 s4 s5 s6 s7 s8 (some u) (((w.setCell ⟨g,0,none⟩ x).setCell ⟨g,1,none⟩ y).setCell ⟨g,2,none⟩ c):=by obtain⟨g',k1,k2,k3,_⟩:=h.al _ h8;injection k1 with k1;injection k1 with k1;injection k1 with k1 _ _;subst k1;have hk:=k3 rfl;have hg:w.grownBy (((w.setCell ⟨g,0,none⟩ x).setCell ⟨g,1,none⟩ y).setCell ⟨g,2,none⟩ c) (some g):=ey (ey (ey (wF (Below.refl _ _)) 0 x) 1 y) 2 c;have hn:((w.setCell ⟨g,0,none⟩ x).setCell ⟨g,1,none⟩ y).setCell ⟨g,2,none⟩ c=((w.setCell ⟨g,0,none⟩ x).setCell ⟨g,1,none⟩ y).setCell ⟨g,2,none⟩ c:=rfl;refine⟨((h.low.setCell (p:=⟨g,0,none⟩) k2 x).setCell (p:=⟨g,1,none⟩) k2 y).setCell (p:=⟨g,2,none⟩) k2 c,λ e4=>(by rw[h4] at e4;cases e4),λ z hz=>(h.run z hz).grown hk hg,h.e4,h.e5,h.e6,h.e7,λ _=>⟨by rw[h8];rfl,by rw[h4];rfl⟩,λ z hz=>?_⟩;rw[h8] at hz;injection hz with hz;exact⟨g,hz.symm,k2,λ e=> Tba,λ _=>⟨#[x,y,c],e,h4,((hk.aU 0 x).aU 1 y).aU 2 c⟩⟩
theorem rT.cell (h:rT W rows r s3 s4 s5 s6 s7 s8 none w) {v:Value}(h8:s8=some v):∃g,v=aw g/\aB w g 33 z33:=by obtain⟨g,k1,k2,k3,_⟩:=h.al _ h8;exact⟨g,k1,k3 rfl⟩
theorem rT.fin {v4 v5 v6 v7 v8 v9:Value}(h:rT W rows r s3 (some v4) (some v5) (some v6) (some v7) (some v8) (some v9) w):∃g cs ev,v4=.tuple #[.agg cs,ev]/\v5=v4/\v6=.agg cs/\v7=ev/\v8=aw g/\W.heap.size<=g/\aB w g 33 cs/\iH r W.heap.size w (.tuple #[.agg cs,ev])/\aj W w:=by obtain⟨g,k1,k2,_,k4⟩:=h.al _ rfl;obtain⟨cs,y,j1,j2⟩:=k4 rfl;injection j1 with j1;have e5:=h.e5 _ rfl;injection e5 with e5;obtain⟨y6,e6⟩:=h.e6 _ rfl;injection e6 with e6;obtain⟨y7,e7⟩:=h.e7 _ rfl;injection e7 with e7;have h6:=j1.symm.trans e6;have h7:=j1.symm.trans e7;injection h6 with h6;injection h7 with h7;have h6:=congrArg (λ a:Array Value=>a[0]?) h6;have h7:=congrArg (λ a:Array Value=>a[1]?) h7;simp at h6 h7;exact⟨g,cs,y,j1,e5.symm,h6.symm,h7.symm,k1,k2,j2,by rw[<- j1];exact h.run _ rfl,h.low⟩
end
def zn (W:World)(rows:List (List Val))(r:Except Int (List aW×List (List Val)))(σ:Nat->Option Value)(w:World):Prop:=rT W rows r (σ 3) (σ 4) (σ 5) (σ 6) (σ 7) (σ 8) (σ 9) w
def rgU (q:Qy)(L:QL)(CA:Option Addr)(cc:Nat)(cols:List aW)(RA:Option Addr)(rc:Nat)(rows:List aX):Nat->Value:=λ i=>if i=0 then mM q L else if i=1 then .slice CA cols.length cc else if i=2 then .slice RA rows.length rc else undef
variable{P:Program}{ρ:Operand->Value}
theorem WT{o:Oper}  {w:World} {T:Value->World->Prop}(h:(execOp ρ o).run P w=.ok .skip w')(ht:T undef w'):xa P o ρ w T:=by unfold xa;rw[h];exact ht
theorem ajC{w:World}    (rc:Nat)(h:CR w CA cols RA rows):
  ar 12 #[.slice RA rows.length rc] w λ e w'=>∃v,e=.returned v/\(∃A c rs,v=.slice A (List.length rs) c/\RR w' w'.heap.size A rs/\rs.map (·.l)=rows.map (·.l))/\aj w w':=by refine(acA rows RA rc w (by have:=h.rn;omega) (λ r hr=>by have:=(h.each r hr).1;omega) h.rr).mono ?_;rintro e w1 ⟨v,cl,rfl,h1,h2,h3,h4⟩;obtain⟨A,c,rfl,h5⟩:=SR h1 h2;exact⟨_,rfl,⟨A,c,cl,rfl,h5,h3⟩,h4⟩
variable{RB:Option Addr}
theorem CR.same{w:World}    (h:CR w CA cols RA rows)(hr:RR w w.heap.size RB rs)(he:rs.map (·.l)=rows.map (·.l)):CR w CA cols RB rs:=by
 refine⟨h.env,h.cr,h.cl,hr,?_,λ r hm=>?_⟩
 ·have:=congrArg List.length he;simp only[length_map] at this;rw[this];exact h.rn
 ·have hx:r.l∈rows.map (·.l):=by rw[<- he];exact List.mem_map.2 ⟨r,hm,rfl⟩
  obtain⟨r0,yl,e0⟩:=List.mem_map.1 hx;rw[<- e0];exact h.each r0 yl
end Go.Proofs.YtndgjggokjickaaGreatDoor
