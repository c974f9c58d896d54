/- Parts of the proof. -/
import Derived.Test.YtndgjggokjickaaGreatDoorXX10
namespace Go.Proofs.YtndgjggokjickaaGreatDoor
variable{p:Prop}
set_option maxHeartbeats 90000000
set_option maxRecDepth 100000
open Go.ChangeShapes Go.WideShapes Go.ChangeAt Go.RowKit Go.Shelf List
set_option linter.unusedVariables false
set_option linter.unusedSimpArgs false
def jL (q:Qy):Prop:=1 < q.cD.length\/1 < q.eU.length\/1 < q.lim.length\/(q.lim.length=1/\q.lim.getD 0 0 < 0)
theorem zbT.Kam(h:p:=by
 simp only[bK,fy,Tryz.f28,Option.getD_some] at hO ⊢;have HO:=aa hO;clear hO;refine wp_seq_k λ K hK=>?_
 have HK:=aa hK;clear hK;by_cases t1:1 < q.cD.length
 ·have t1':(1:Int)<((q.cD.length:Nat):Int):=by omega
  go_wp2_with fail;exact HE.ae _ (.inl t1) ⟨rfl,rfl,rfl⟩
 ·have t1':¬(1:Int)<((q.cD.length:Nat):Int):=by omega
  by_cases t2:1 < q.eU.length
  ·have t2':(1:Int)<((q.eU.length:Nat):Int):=by omega
   go_wp2_with fail;exact HE.ae _ (.inr (.inl t2)) ⟨rfl,rfl,rfl⟩
  ·have t2':¬(1:Int)<((q.eU.length:Nat):Int):=by omega
   cases pN:q.lim with
   | nil=>
     rw[pN] at c7;have HN:=aa (show¬jL q from λ h=>by
      unfold jL at h
      rw[pN] at h
      rcases h with h | h | h | h
      ·exact t1 h
      ·exact t2 h
      ·simp at h
      ·simp at h)
     clear pN J4 t1 t2;exact ZfM
   | cons l0 ls=>
     rw[pN] at c7
     cases hls:ls with
     | nil=>
       subst hls
       have hcell:∃b off,L.l.A=some ⟨b,off,none⟩/\w.cell? ⟨b,off,none⟩=some (af l0):=by
        rcases J4 with h |⟨b,off,h1,_,h3⟩
        ·rw[pN] at h;cases h
        ·exact⟨b,off,h1,h3 0 l0 (by rw[pN];rfl)⟩
       obtain⟨b,off,hA,hc⟩:=hcell;rw[hA] at c7;by_cases t4:l0 < 0
       ·have HB:=aa (show jL q from .inr (.inr (.inr ⟨by rw[pN];rfl,by rw[pN];exact t4⟩)));clear pN J4 hA t1 t2;go_wp2_with fail;exact HE.ae _ HB.ae ⟨rfl,rfl,rfl⟩
       ·have HN:=aa (show¬jL q from λ h=>by
         unfold jL at h
         rw[pN] at h
         rcases h with h | h | h | h
         ·exact t1 h
         ·exact t2 h
         ·simp at h
         ·exact t4 h.2)
        clear pN J4 hA t1 t2;exact ZfM
     | cons l1 ls2=>
       subst hls;have t3:(1:Int)<(((l0::l1::ls2).length:Nat):Int):=by simp only[length_cons];omega
       have HB:=aa (show jL q from .inr (.inr (.inl (by rw[pN];simp))));generalize (l0::l1::ls2).length=n3 at*;clear pN J4 t1 t2;go_wp2_with fail;exact HE.ae _ HB.ae ⟨rfl,rfl,rfl⟩):p:=h
theorem adN (g1 g2 g4 g5 gp:Nat)(q:Qy)(L:QL)(T:Array Value)(hT:T.size=252)(h2:T.getD 2 undef=aw g2)(h4:T.getD 4 undef=aw g4)(h5:T.getD 5 undef=aw g5)(w:World)(Q:Exit->Act->World->Prop)
  (hw:L.w.n=q.cD.length) (hh:L.h.n=q.eU.length) (hl:L.l.n=q.lim.length) (J4:Up w w.heap.size L.l.A q.lim) (hb2:aB w g2 27 (eJ q L)) (b4:aB w g4 72 #[.pointer none]) (b5:aB w g5 34 #[af 0]) (uR:g4≠g5)
  (hE:∀a,jL q->qp a [] g4 g5->Q .ret a (jf w g4 g5 1))
  (hO:¬jL q->∀z39 z40 z41 z42 z43 z44 z45 z46 z47 z48 z49 z50 z51 z52 z53 z54 z55 z56 z57 z58 z59 z60 z61 z62 z63 z64 z65 z66 z67:Value,(fy bK 3).wp Tryz.prog Q { tmps:=(((((((((((((((((((((((((((((T.setIfInBounds 39 z39).setIfInBounds 40 z40).setIfInBounds 41 z41).setIfInBounds 42 z42).setIfInBounds 43 z43).setIfInBounds 44 z44).setIfInBounds 45 z45).setIfInBounds 46 z46).setIfInBounds 47 z47).setIfInBounds 48 z48).setIfInBounds 49 z49).setIfInBounds 50 z50).setIfInBounds 51 z51).setIfInBounds 52 z52).setIfInBounds 53 z53).setIfInBounds 54 z54).setIfInBounds 55 z55).setIfInBounds 56 z56).setIfInBounds 57 z57).setIfInBounds 58 z58).setIfInBounds 59 z59).setIfInBounds 60 z60).setIfInBounds 61 z61).setIfInBounds 62 z62).setIfInBounds 63 z63).setIfInBounds 64 z64).setIfInBounds 65 z65).setIfInBounds 66 z66).setIfInBounds 67 z67),defers:=[] } w):
  (fy bK 2).wp Tryz.prog Q { tmps:=T,defers:=[] } w:=by obtain⟨f,rfl⟩:=kX T hT;have h2:f 2=_:=h2;have h4:f 4=_:=h4;have h5:f 5=_:=h5;simp only[bT,Uac] at hO;simp only[bT,h2,h4,h5] at hO ⊢;clear h2 h4 h5;clear h2 h4 h5 hT;have HE:=aa hE;unfold eJ at hb2;have c3:=hb2.cell 3;have Kx:=hb2.cell 5;have c7:=hb2.cell 7;simp only[Uaa] at c3 Kx c7;rw[hw] at c3;rw[hh] at Kx;rw[hl] at c7;clear hw hh hl hE hb2;open zbT in exact ZaE
variable{α:Type}{f:α->List Value}{e:TypeId}{size B:Nat}{v:Value}{l:List α}
theorem MR{base:Nat} {w:World}  (h:aI f e size w base v l)(hB:B<=base):aI f e size w B v l:=by
 refine⟨h.1,?_⟩;rcases h.2 with h |⟨g,cap,cur,h1,h2,h3⟩
 ·exact .inl h
 ·exact .inr ⟨g,cap,cur,h1,Nat.le_trans hB h2,h3⟩
def PlB (B:Nat)(q:Qy)(L:QL)(CA:Option Addr)(cc:Nat)(cols:List aX)(w:World)(g:Nat):Prop:=∃hv:Value,aB w g 81 #[.slice L.i.A L.i.n L.i.c,.string q.bT,.bool q.only,.slice L.w.A L.w.n L.w.c,.slice L.g.A L.g.n L.g.c,.slice L.h.A L.h.n L.h.c,.slice L.o.A L.o.n L.o.c,.slice L.l.A L.l.n L.l.c,.slice CA cols.length cc,az,az,.bool q.aK,hv,az,az,az]/\aI aS 113 2 w B hv cols/\hv.ownBlock≠some g/\B<=g
variable{q:Qy}{L:QL}{CA:Option Addr}{cc:Nat}{cols:List aX}{w':World}
theorem PlB.later{w:World} {g:Nat}(h:PlB B q L CA cc cols w g)(hb:aj w w'):PlB B q L CA cc cols w' g:=by obtain⟨hv,h1,h2,h3⟩:=h;exact⟨hv,h1.later hb,h2.later hb,h3⟩
def ajd (q:Qy)(L:QL)(CA:Option Addr)(cc:Nat)(cols:List aX)(B:Nat):Nat->World->Value->Prop
 | 0,_,v=>v=.agg #[.slice L.i.A L.i.n L.i.c,.string q.bT,.bool q.only,.slice L.w.A L.w.n L.w.c,.slice L.g.A L.g.n L.g.c,.slice L.h.A L.h.n L.h.c,.slice L.o.A L.o.n L.o.c,.slice L.l.A L.l.n L.l.c]
 | 1,_,v=>v=.slice CA cols.length cc
 | 2,_,v=>v=.agg #[.slice L.i.A L.i.n L.i.c,.string q.bT,.bool q.only,.slice L.w.A L.w.n L.w.c,.slice L.g.A L.g.n L.g.c,.slice L.h.A L.h.n L.h.c,.slice L.o.A L.o.n L.o.c,.slice L.l.A L.l.n L.l.c]
 | 3,_,v=>v=.bool q.aK
 | 4,_,v=>v=.slice CA cols.length cc
 | 5,w,v=>∃hv:Value,v=hv/\aI aS 113 2 w B hv cols
 | 6,w,v=>∃hv:Value,v=.agg #[.slice L.i.A L.i.n L.i.c,.string q.bT,.bool q.only,.slice L.w.A L.w.n L.w.c,.slice L.g.A L.g.n L.g.c,.slice L.h.A L.h.n L.h.c,.slice L.o.A L.o.n L.o.c,.slice L.l.A L.l.n L.l.c,.slice CA cols.length cc,az,az,.bool q.aK,hv,az,az,az]/\aI aS 113 2 w B hv cols
 | 7,w,v=>∃g:Nat,v=aw g/\PlB B q L CA cc cols w g
 | _,_,_=>False
theorem QY (q:Qy)(L:QL)(CA:Option Addr)(cc:Nat)(cols:List aX)(B:Nat):∀i w w' v,ajd q L CA cc cols B i w v->ai w w'->ajd q L CA cc cols B i w' v:=by
 intro i w w' v h hl
 match i with
 | 0 | 1 | 2 | 3 | 4=>exact h
 | 5=>exact Zga
 | 6=>exact Zga
 | 7=>exact Zga
 | n+8=>exact h
theorem zdT.KaJ(h:p:=by exact Zds):p:=h
theorem zdU.KaJ(h:p:=by exact Zds):p:=h
theorem adP (q:Qy)(L:QL)(CA:Option Addr)(cc:Nat)(cols:List aX)(g2:Nat)(T:Array Value)(hT:T.size=252)(h1:T.getD 1 undef=.slice CA cols.length cc)(h2:T.getD 2 undef=aw g2)(w:World)(Q:Exit->Act->World->Prop)
  (JQ:pY w q L) (aZ:q.Ok) (hrc:RC w w.heap.size CA cols) (cf:cols.length<=1000) (hb2:aB w g2 27 (eJ q L))
  (KK:∀gp W z31 z32 z33 z34 z35 z36 z37 z38,PlB w.heap.size q L CA cc cols W gp->aj w W->(fy bK 2).wp Tryz.prog Q { tmps:=(((((((((T.setIfInBounds 31 z31).setIfInBounds 32 z32).setIfInBounds 33 z33).setIfInBounds 34 z34).setIfInBounds 35 z35).setIfInBounds 36 z36).setIfInBounds 37 z37).setIfInBounds 38 z38).setIfInBounds 6 (aw gp)),defers:=[] } W):
  (fy bK 1).wp Tryz.prog Q { tmps:=T,defers:=[] } w:=by
 obtain⟨f,rfl⟩:=kX T hT;have h1:f 1=_:=h1;have h2:f 2=_:=h2;simp only[bT,Uac] at KK;simp only[bT,h1,h2] at KK ⊢;clear h1 h2;clear h1 h2 hT;have HQY:=aa JQ;have gh:=aa aZ;have HRC:=aa hrc;have VC:=aa cf;have Gi:=aa hb2;unfold eJ at Gi;simp only[bK,fy,Tryz.f28,Option.getD_some] at KK ⊢;have Kx:=aa KK;clear KK JQ aZ hrc cf hb2;obtain⟨B,hO⟩:∃B,B=w.heap.size:=⟨_,rfl⟩;have HO:=aa hO;clear hO;refine wp_seq_k λ K hK=>?_
 have HK:=aa hK;clear hK;refine bC 8 (ajd q L CA cc cols B) (QY _ _ _ _ _ _) Taa Taa Taa ?_ ?_
 ·simp only[take_succ_cons,take_zero];refine⟨?_,Zaa,?_,?_,Zaa,?_,?_,?_,trivial⟩
  ·intro ρ w3 hc hL hr;have h0:_=_:=hr.1;have cJ:=Gi.ae.later hL;open zdT in exact ZbL
  ·intro ρ w3 hc hL hr;have h0:_=_:=hr.1;have cJ:=Gi.ae.later hL;open zdU in exact ZbL
  ·intro ρ w3 hc hL hr;have h0:_=_:=hr.1;have e1:=hc.func 54;refine bj (f:=54) (args:= #[mR q L]) (w':=w3) (by unfold mR;simp[go_sem,e1,h0];done) ?_;refine(KR q L w3 (HQY.ae.later hL) gh.ae).mono ?_;exact Zbj
  ·intro ρ w3 hc hL hr;have h0:_=_:=hr.1;have e1:=hc.func 55;refine bj (f:=55) (args:= #[.slice CA cols.length cc]) (w':=w3) TaA ?_;refine(IV CA cc cols w3 (HRC.ae.later hL) VC.ae).mono ?_;rintro e4 w4 ⟨v4,rfl,ho4,b4⟩;exact⟨_,rfl,b4,_,rfl,MR ho4 (HO.ae▸hL.size)⟩
  ·intro ρ w3 hc hL hr;have h0:_=_:=hr.1;have h1:_=_:=hr.2.1;have h2:_=_:=hr.2.2.1;obtain⟨hv3,h3,apY⟩:∃hv:Value,ρ (.tmp 36)=hv/\aI aS 113 2 w3 B hv cols:=hr.2.2.2.1;obtain⟨HA,hc9,hh,_⟩:=apY.reads;subst hh;exact aq (v:=.agg #[.slice L.i.A L.i.n L.i.c,.string q.bT,.bool q.only,.slice L.w.A L.w.n L.w.c,.slice L.g.A L.g.n L.g.c,.slice L.h.A L.h.n L.h.c,.slice L.o.A L.o.n L.o.c,.slice L.l.A L.l.n L.l.c,.slice CA cols.length cc,az,az,.bool q.aK,(Value.slice HA cols.length hc9),az,az,az]) (w':=w3) (by simp[go_sem,h0,h1,h2,h3];done) ⟨ai.refl _,_,rfl,apY⟩
  ·intro ρ w3 hc hL hr;obtain⟨hv0,h0,fN⟩:∃hv:Value,ρ (.tmp 37)=.agg #[.slice L.i.A L.i.n L.i.c,.string q.bT,.bool q.only,.slice L.w.A L.w.n L.w.c,.slice L.g.A L.g.n L.g.c,.slice L.h.A L.h.n L.h.c,.slice L.o.A L.o.n L.o.c,.slice L.l.A L.l.n L.l.c,.slice CA cols.length cc,az,az,.bool q.aK,hv,az,az,az]/\aI aS 113 2 w3 B hv cols:=hr.1;refine aq (v:=aw w3.heap.size) (w':=w3.alloc (.cells #[.slice L.i.A L.i.n L.i.c,.string q.bT,.bool q.only,.slice L.w.A L.w.n L.w.c,.slice L.g.A L.g.n L.g.c,.slice L.h.A L.h.n L.h.c,.slice L.o.A L.o.n L.o.c,.slice L.l.A L.l.n L.l.c,.slice CA cols.length cc,az,az,.bool q.aK,hv0,az,az,az] 81)) Tar ⟨ah w3 _,_,rfl,?_⟩;exact⟨hv0,aB.new w3 _ _,fN.later (ah w3 _),λ e=>(by have:=(fN.lt e).1;omega),HO.ae▸hL.size⟩
 intro W3 hL;simp only[Uab];rintro a0 - a1 - a2 - a3 - a4 - a5 - a6 - a7 ⟨g_7,rfl,Vv⟩;simp only[bE,Act.put,Uac];have avF:=aa hL;have qu:=aa Vv;clear Vv hL;go_wp2_with fail;have hp:=qu.ae;rw[HO.ae] at hp;exact HK.ae _ _ (Kx.ae _ _ _ _ _ _ _ _ _ _ hp avF.ae)
theorem R8 (q:Qy)(L:QL)(T:Array Value)(hT:T.size=252)(h0:T.getD 0 undef=mR q L)(w:World)(Q:Exit->Act->World->Prop)
  (hO:∀W g2 g4 g5 z2 z4 z5,z2=aw g2->z4=aw g4->z5=aw g5->aB W g2 27 (eJ q L)->aB W g4 72 #[.pointer none]->aB W g5 34 #[af 0]->aj w W->w.heap.size<=g2/\g2 < g4/\g4 < g5->(fy bK 1).wp Tryz.prog Q { tmps:=((T.setIfInBounds 2 z2).setIfInBounds 4 z4).setIfInBounds 5 z5,defers:=[] } W):
  bK.wp Tryz.prog Q { tmps:=T,defers:=[] } w:=by
 obtain⟨f,rfl⟩:=kX T hT;have h0:f 0=_:=h0;have bb:=ah w (.cells (eJ q L) 27);have HX:=aB.new w 27 (eJ q L);obtain⟨W1,hW1⟩:∃W1,W1=w.alloc (.cells (eJ q L) 27):=⟨_,rfl⟩;have s1:W1.heap.size=w.heap.size+1:=by rw[hW1,World.size_alloc]
 rw[<- hW1] at bb HX;have hL:=ah W1 (.cells #[.pointer none] 72);have k4:=aB.new W1 72 #[.pointer none];obtain⟨W2,hW2⟩:∃W2,W2=W1.alloc (.cells #[.pointer none] 72):=⟨_,rfl⟩;have s2:W2.heap.size=W1.heap.size+1:=by rw[hW2,World.size_alloc]
 rw[<- hW2] at hL k4;have b3:=ah W2 (.cells #[af 0] 34);have k5:=aB.new W2 34 #[af 0];have dR:=hO _ w.heap.size W1.heap.size W2.heap.size _ _ _ rfl rfl rfl ((HX.later hL).later b3) (k4.later b3) k5 (Below.trans (Below.trans bb (hL.mono WC)) (b3.mono WC)) ⟨Nat.le_refl _,by omega,by omega⟩;simp only[bT,Uac] at dR;simp only[bT,h0] at dR ⊢;subst hW2;subst hW1;clear h0 hO s1 s2 bb hL b3 HX k4 k5;clear h0 hT;simp only[World.size_alloc] at dR;unfold eJ mR at*;simp only[bK,fy,Tryz.f28,Option.getD_some] at dR ⊢;refine wp_seq_k λ K hK=>?_
 have HK:=aa hK;have Lz:=aa dR;clear hK dR;go_wp2_with fail;exact HK.ae _ _ Lz.ae
def Af (q:Qy)(L:QL)(CA:Option Addr)(cc:Nat)(cols:List aX):PC:=⟨.slice L.i.A L.i.n L.i.c,.string q.bT,.bool q.only,.slice L.w.A L.w.n L.w.c,.slice L.h.A L.h.n L.h.c,.slice L.o.A L.o.n L.o.c,.slice L.l.A L.l.n L.l.c,L.g.A,L.g.n,L.g.c,CA,cc,q.aK,q.aL,cols⟩
def kY:Value:=az
variable{w0 W:World}{gp g2 g4 g5 D:Nat}{hv:Value}
theorem R9{w:World}  (hb:aj w0 w)(hB0:w0.heap.size<=B)(hblk:aB w gp 81 ((Af q L CA cc cols).cells ⟨hv,kY,kY,kY⟩ kY kY))(ho:aI aS 113 2 w B hv cols)(hg:hv.ownBlock≠some gp)(hBg:B<=gp)
  (k2:aB w g2 27 (eJ q L)) (k4:aB w g4 72 #[.pointer none]) (k5:aB w g5 34 #[af 0]) (l2:g2 < B) (l4:g4 < B) (l5:g5 < B) (m4:w0.heap.size<=g4) (m5:w0.heap.size<=g5) (Au:g4≠g5)
  (hW:aj w W) (hD:w.heap.size<=D) (hd:W.heap[D]?=some (.deferred (some []))):
  cO (Af q L CA cc cols) w0 gp g2 (eJ q L) g4 g5 D ⟨hv,kY,kY,kY⟩ W kY kY [] ⟨[],[]⟩ cols [] [] [] [] [] []:=by
 have zT:=hblk.lt;have hs:=hW.size
 have hDl:D < W.heap.size:=by
  rcases Nat.lt_or_ge D W.heap.size with h | h
  ·exact h
  ·rw[Array.getElem?_eq_none h] at hd;cases hd
 have hown:∀i < 6,∀b,(PR kY kY ⟨hv,kY,kY,kY⟩ i).ownBlock=some b->i=2/\B<=b/\b < w.heap.size/\b≠gp:=λ i hi b hb=>by
  match i with
  | 0 | 1 | 3 | 4=>cases hb
  | 2=>have hb:hv.ownBlock=some b:=hb;exact⟨rfl,(ho.lt hb).2.1,(ho.lt hb).1,λ e=>hg (by rw[hb,e])⟩
  | n+5=>cases hb
 have kp:∀b,b < W.heap.size->b≠gp->(b < B\/w.heap.size<=b)->sW W gp (PR kY kY ⟨hv,kY,kY,kY⟩) b:=λ b h1 h2 h3=>⟨h1,h2,λ i hi e=>by
  obtain⟨_,h4,h5,_⟩:=hown i hi b e
  omega⟩
 have n2:=k2.lt;have n4:=k4.lt;have n5:=k5.lt;refine⟨⟨by omega,by omega,Below.trans hb (hW.mono hb.size),λ i hi b e=>?_,λ i hi j hj nP b e1 e2=>nP ((hown i hi b e1).1.trans (hown j hj b e2).1.symm),kp g2 WC WC (.inl l2),kp g4 WC WC (.inl l4),kp g5 WC WC (.inl l5),kp D hDl WC (.inr hD),⟨m4,m5,Au,by omega,by omega⟩,hd,k2.later hW,k4.later hW,k5.later hW⟩,hblk.later hW,oh,oh,MR (ho.later hW) hB0,oh,oh,oh,?_,?_,?_,?_⟩
 ·obtain⟨_,h4,h5,h6⟩:=hown i hi b e;exact⟨by omega,by omega,h6⟩
 all_goals (unfold Tr.aO;rfl)
def S0 (c:PC)(w0:World)(q:Qy)(L:QL)(e:Ending)(W:World):Prop:=
 (∃er,(jL q/\er=1\/¬jL q/\rX c.aK c.aL c.cols q=.error er)/\er≠0/\e=.returned (.tuple #[.pointer none,af er])/\aj w0 W)\/
 (∃gp g2 g4 g5 D r W1 u v ya s hd yi yh yo ti th eD,¬jL q/\rX c.aK c.aL c.cols q=.ok (ti,hd,th,eD,s)/\e=.returned (.tuple #[aw gp,af 0])/\w0.heap.size<=D/\cO c w0 gp g2 (eJ q L) g4 g5 D r W1 u v ya s ((if q.items=[] then c.cols else [])++hd) yi yh yo ti th eD/\W=(jt W1 g4 g5 gp).putObj D (.deferred none))
variable{T:Array Value}{a b:Value}
theorem AE(h4:T.getD 4 undef=aw g4)(h5:T.getD 5 undef=aw g5)(c4:W.cell? ⟨g4,0,none⟩=some a)(c5:W.cell? ⟨g5,0,none⟩=some b):(results Tryz.f28 T).run Tryz.prog W=.ok (.tuple #[a,b]) W:=by
 have e4:T[4]?.getD undef=aw g4:=by rw[<- h4];simp[Array.getD_eq_getD_getElem?]
 have e5:T[5]?.getD undef=aw g5:=by rw[<- h5];simp[Array.getD_eq_getD_getElem?]
 simp[results,Tryz.f28,go_sem,e4,e5,c4,c5]
theorem adQ:Tryz.f28.body=some bK:=by unfold bK;simp only[Tryz.f28,Option.getD_some]
theorem adR (a b:Value):(#[a,b]++Array.replicate (Tryz.f28.ntmps - (#[a,b]:Array Value).size) undef).size=252:=by simp[Tryz.f28]
variable{er:Int}
theorem GM(b4:aB W g4 72 #[.pointer none])(b5:aB W g5 34 #[af 0])(h:g4≠g5):(jf W g4 g5 er).cell? ⟨g4,0,none⟩=some (.pointer none)/\(jf W g4 g5 er).cell? ⟨g5,0,none⟩=some (af er):=
 ⟨(((b4.aT 0 (.pointer none)).far (p:=⟨g5,0,none⟩) h (af er)).cell 0),((b5.far (p:=⟨g4,0,none⟩) (Ne.symm h) (.pointer none)).aT 0 (af er)).cell 0⟩
theorem S1(b4:aB W g4 72 #[.pointer none])(b5:aB W g5 34 #[af 0])(h:g4≠g5):(jt W g4 g5 gp).cell? ⟨g4,0,none⟩=some (aw gp)/\(jt W g4 g5 gp).cell? ⟨g5,0,none⟩=some (af 0):=
 ⟨(((b4.aT 0 (aw gp)).far (p:=⟨g5,0,none⟩) h (af 0)).cell 0),((b5.far (p:=⟨g4,0,none⟩) (Ne.symm h) (aw gp)).aT 0 (af 0)).cell 0⟩
variable{ob ob':Obj}
theorem lN(h:W.heap[D]?=some ob)(hc:ob.isCells=false) {p:Addr} (hv:W.cell? p=some v):(W.putObj D ob').cell? p=some v:=(Fr.putObj W D ob ob' h hc).cell p v hv
theorem uS{w:World}  (h:Below B w W)(hD:B<=D):Below B w (W.putObj D ob'):=
 ⟨h.os,h.tape,h.output,by simpa using h.size,λ k hk=>(World.putObj_heap_other WC).trans (h.block k hk)⟩
theorem zhk.KbV(h:p:=by refine⟨by simp,.inl ⟨_,_,rfl,run_takeDeferred hK,?_⟩⟩;exact⟨_,AE r4 r5 (lN hK rfl c4) (lN hK rfl c5),.inr ⟨gp,g2,g4,g5,D,r',W,u',v',ql,s',vk,yi,yh,yo,ti,th,eD,Sm,he,rfl,hDl,hp,rfl⟩⟩):p:=h
theorem ziy.Kcr(h:p:=by
 clear JR;have HRC:=hq.ok.cols;refine R8 q L T hT t0 w0 _ ?_;intro Wa g2 g4 g5 x2 x4 x5 e2 e4 e5 k2 k4 k5 hba hg;have HBa:aj w0 Wa:=hba;have t0':T[0]?.getD undef=mR q L:=by rw[<- t0];simp[Array.getD_eq_getD_getElem?]
 have t1':T[1]?.getD undef=.slice CA cols.length cc:=by rw[<- t1];simp[Array.getD_eq_getD_getElem?]
 have apZ:T[1]'(by rw[hT];decide)=.slice CA cols.length cc:=by have h:=t1';rw[Array.getElem?_eq_getElem (by rw[hT];decide)] at h;exact h
 refine adP q L CA cc cols g2 _ TaF ?_ ?_ Wa _ (JQ.later hba) aZ (HRC.later hba) cf k2 ?_
 ·exact ZgP
 ·exact Ze6
 intro gp Wb z31 z32 z33 z34 z35 z36 z37 z38 hpl kF;obtain⟨hv,p1,p2,p3,p4⟩:=hpl;have q2:=k2.later kF;have q4:=k4.later kF;have q5:=k5.later kF;have hB:=Below.trans hba (kF.mono hba.size);refine adN g2 g2 g4 g5 gp q L _ TaF Ze6 Zha Zhb Wb _ JQ.w.n JQ.h.n JQ.l.1 ((JQ.later hB).l.2) q2 q4 q5 WC ?_ ?_
 ·rintro⟨ta,da⟩ jW ⟨rfl,r4,r5⟩;obtain⟨c4,c5⟩:=GM (er:=1) q4 q5 WC;refine⟨_,AE r4 r5 c4 c5,.inl ⟨1,.inl ⟨jW,rfl⟩,by decide,rfl,(hB.setCell (p:=⟨g4,0,none⟩) (show w0.heap.size<=g4 by omega) _).setCell (p:=⟨g5,0,none⟩) (show w0.heap.size<=g5 by omega) _⟩⟩
 ·intro Sm y39 y40 y41 y42 y43 y44 y45 y46 y47 y48 y49 y50 y51 y52 y53 y54 y55 y56 y57 y58 y59 y60 y61 y62 y63 y64 y65 y66 y67;refine adM (Af q L CA cc cols) w0 gp g2 g4 g5 q L ⟨hv,kY,kY,kY⟩ kY kY cols _ TaF ?_ ?_ ?_ ?_ ?_ Wb _ hq ?_ hB q2 q4 q5 WC WC WC ?_ ?_ ?_
  ·exact ZgP
  ·exact Ze6
  ·exact Zha
  ·exact Zhb
  ·simp[Array.getD_eq_getD_getElem?,Array.getElem?_setIfInBounds,hT]
  ·intro W D hW hD hd;exact R9 hB hba.size p1 p2 p3 p4 q2 q4 q5 k2.lt k4.lt k5.lt WC WC WC hW hD hd
  ·rintro D ⟨ta,da⟩ W hDl aqa ⟨rfl,r4,r5⟩ ⟨d1,d2,d3⟩ hK;refine⟨by simp,.inl ⟨_,_,rfl,run_takeDeferred hK,?_⟩⟩;refine⟨_,AE r4 r5 (lN hK rfl (d2.cell 0)) (lN hK rfl (d3.cell 0)),.inl ⟨1,.inr ⟨Sm,if_pos aqa⟩,by decide,rfl,uS d1 hDl⟩⟩
  ·rintro D er ⟨ta,da⟩ W hDl he hne ⟨rfl,r4,r5⟩ ⟨w1,w2,w3,w4,w5,w6,w7,w8,w9⟩;obtain⟨c4,c5⟩:=GM (er:=er) w7 w8 w4;have hK:(jf W g4 g5 er).heap[D]?=some (.deferred (some [])):=by unfold jf;rw[Below.heap_setCell _ ⟨g5,0,none⟩ _ D (Ne.symm w6),Below.heap_setCell _ ⟨g4,0,none⟩ _ D (Ne.symm w5)];exact w9
   refine⟨by simp,.inl ⟨_,_,rfl,run_takeDeferred hK,?_⟩⟩;refine⟨_,AE r4 r5 (lN hK rfl c4) (lN hK rfl c5),.inl ⟨er,.inr ⟨Sm,he⟩,hne,rfl,uS ((w1.setCell (p:=⟨g4,0,none⟩) w2 _).setCell (p:=⟨g5,0,none⟩) w3 _) hDl⟩⟩
  ·rintro D ⟨ta,da⟩ W r' u' v' ql s' vk yi yh yo ti th eD hDl he ⟨rfl,r4,r5⟩ hp;have hf:=hp.f;obtain⟨c4,c5⟩:=S1 (gp:=gp) hf.z4 hf.z5 hf.new.2.2.1;open zhk in exact Zfb):p:=h
theorem MS (q:Qy)(L:QL)(CA:Option Addr)(cc:Nat)(cols:List aX)(w0:World)(JQ:pY w0 q L)(aZ:q.Ok)(cf:cols.length<=1000)(hq:Dt (Af q L CA cc cols) w0 q L cols):
  ar 28 #[mR q L,.slice CA cols.length cc] w0 (S0 (Af q L CA cc cols) w0 q L):=by
 refine(callsIn_wide (n:=4)).1 ?_;refine callsIn_of_wp_marks (c:=bK) Tryz.func28 adQ trivial ?_ rfl;refine wpIn_wide.2 ?_;obtain⟨T,JR⟩:∃T:Array Value,T= #[mR q L,.slice CA cols.length cc]++Array.replicate (Tryz.f28.ntmps - (#[mR q L,.slice CA cols.length cc]:Array Value).size) undef:=⟨_,rfl⟩;rw[<- JR];have hT:T.size=252:=by rw[JR];exact adR _ _
 open ziy in exact ZhC
theorem S2(cols:List aX)(h:jL q):dS q cols=.error 1:=by unfold dS;exact if_pos h
theorem GN(cols:List aX)(h:¬jL q):dS q cols=match rX q.aK q.aL cols q with
  | .error e=> .error e
  | .ok (is,hd,hs,os,s)=> .ok ⟨q.aK,if q.items=[] then cols else hd,s,is,hs,os⟩:=by
 unfold dS rX;rw[if_neg (show¬(1 < q.cD.length\/1 < q.eU.length\/1 < q.lim.length\/(q.lim.length=1/\q.lim.getD 0 0 < 0))from h)];by_cases hd:(q.all.any λ t=>decide (32 < t.depth))=true
 ·rw[if_pos hd,if_pos hd]
 ·rw[if_neg hd,if_neg hd];unfold wV
  cases pj cols q.cD with
  | error e=>rfl
  | ok u=>
    dsimp only;unfold wU
    cases kO cols q.aL 0 with
    | error e=>rfl
    | ok gc=>
      dsimp only;unfold zr;by_cases hi:q.items=[]/\q.aK=true
      ·rw[if_pos hi,if_pos hi]
      ·rw[if_neg hi,if_neg hi];unfold wT
       cases dm q.aK q.aL cols q.items ⟨[],gc⟩with
       | error e=>rfl
       | ok p=>
         obtain⟨is,hd,s1⟩:=p;dsimp only;unfold GL
         cases dz q.aK q.aL cols q.eU s1 with
         | error e=>rfl
         | ok p=>
           obtain⟨hs,s2⟩:=p;dsimp only
           cases eu q.aK q.aL cols q.ord s2 with
           | error e=>rfl
           | ok p=>rfl
variable{aL is:List Tr}{hd:List aX}{hs os:List Tr}{s:dy}
theorem Wy{g:Bool}      (hi:q.items=[])(h:rX g aL cols q=.ok (is,hd,hs,os,s)):hd=[]:=by
 unfold rX at h;split at h
 ·cases h
 ·unfold wV at h;split at h
  ·cases h
  ·unfold wU at h;split at h
   ·cases h
   ·unfold zr at h;split at h
    ·cases h
    ·unfold wT at h;rw[hi] at h;unfold dm at h;dsimp only at h;split at h
     ·cases h
     ·injection h with h;injection h with _ h;injection h with h _;exact h.symm
mutual
theorem Tr.at_.ex {w w':World} {S S':Nat->Prop}(hE:∀b off x,cw w b off x->cw w' b off x)(hS:∀b,S b->S' b):∀(t:Tr) (y:Ex),t.at_ w S y->t.at_ w' S' y
 | .mk op v name width args,y,h=>by
   unfold Tr.at_ at h ⊢;obtain⟨h1,h2,h3,h4,h5,ys,h6,h7⟩:=h;refine⟨h1,h2,h3,h4,h5,ys,?_,Tr.aO.ex hE hS args ys h7⟩;rcases h6 with h6 |⟨b,off,k1,k2,k3⟩
   ·exact .inl h6
   ·exact .inr ⟨b,off,k1,hS b k2,λ i x hx=>hE _ _ _ (k3 i x hx)⟩
theorem Tr.aO.ex {w w':World} {S S':Nat->Prop}(hE:∀b off x,cw w b off x->cw w' b off x)(hS:∀b,S b->S' b):∀(ts:List Tr) (ys:List Ex),Tr.aO w S ts ys->Tr.aO w' S' ts ys
 | [],ys,h=>by unfold Tr.aO at h ⊢;exact h
 | t::ts,ys,h=>by unfold Tr.aO at h ⊢;obtain⟨y,ys',h1,h2,h3⟩:=h;exact⟨y,ys',h1,Tr.at_.ex hE hS t y h2,Tr.aO.ex hE hS ts ys' h3⟩
end
variable{off:Nat}{t:TypeId}
theorem S5{w:World} {g:Nat}   {x:Ex}(hb:aB w g t #[a])(h:cw w g off x):False:=by unfold cw at h;have h1:=h.2.1;rw[hb.cell] at h1;simp at h1
theorem S6{w:World} {g:Nat}  (hb:aB w g t #[a])(b off:Nat)(x:Ex)(h:cw w b off x):cw (w.setCell ⟨g,0,none⟩ v) b off x:=by
 have hne:b≠g:=λ e=>by subst e;exact S5 hb h
 exact h.keep λ o=>bI (Below.heap_setCell w ⟨g,0,none⟩ v b hne) o
theorem Wz(b4:aB W g4 72 #[.pointer none])(b5:aB W g5 34 #[af 0])(h:g4≠g5)(hD:(jt W g4 g5 gp).heap[D]?=some (.deferred (some [])))(b off:Nat)(x:Ex)(hx:cw W b off x):cw ((jt W g4 g5 gp).putObj D (.deferred none)) b off x:=
 (S6 (b5.far (p:=⟨g4,0,none⟩) (Ne.symm h) (aw gp)) b off x (S6 b4 b off x hx)).fr (Fr.putObj _ D _ _ hD rfl)
structure afV (c:PC) (w0 W:World) (gp:Nat) (r:Rest) (u v:Value) (ya yi yh yo:List Ex) (p:ji):Prop where
 base:aj w0 W
 low:w0.heap.size<=gp
 blk:aB W gp 81 (c.cells r u v)
 o0:aI bH 46 7 W w0.heap.size u ya
 o1:aI aS 113 2 W w0.heap.size v p.st.aL
 o2:aI aS 113 2 W w0.heap.size r.h p.head
 o3:aI bH 46 7 W w0.heap.size r.i yi
 o4:aI bH 46 7 W w0.heap.size r.j yh
 o5:aI bH 46 7 W w0.heap.size r.o yo
 aJ:Tr.aO w0 (Old w0) p.st.aJ ya
 t3:Tr.aO W (Old W) p.items yi
 t4:Tr.aO W (Old W) p.having yh
 t5:Tr.aO W (Old W) p.order yo
def Jw (q:Qy)(L:QL)(CA:Option Addr)(cc:Nat)(cols:List aX)(w0:World)(e:Ending)(W:World):Prop:=
 match dS q cols with
 | .error er=>er≠0/\e=.returned (.tuple #[.pointer none,af er])/\aj w0 W
 | .ok p=>∃gp r u v ya yi yh yo,e=.returned (.tuple #[aw gp,af 0])/\afV (Af q L CA cc cols) w0 W gp r u v ya yi yh yo p
theorem zhl.KbV(h:p:=by
 have hs:Kx.heap.size=W.heap.size:=by rw[hW];simp[jt]
 have afW:∀b,b≠g4->b≠g5->b≠D->Kx.heap[b]?=W.heap[b]?:=λ b a1 a2 a3=>by rw[hW,World.putObj_heap_other a3];unfold jt;rw[Below.heap_setCell _ ⟨g5,0,none⟩ _ b a2,Below.heap_setCell _ ⟨g4,0,none⟩ _ b a1]
 have hex:=λ b off x=>hW▸Wz (gp:=gp) hf.z4 hf.z5 hf.new.2.2.1 hK b off x
 have hS:∀b,sW W gp (PR u v r) b->Old Kx b:=λ b hb=>by show b < Kx.heap.size;rw[hs];exact hb.1
 have hrow:∀ {α:Type} {f:α->List Value} {t:TypeId} {size:Nat} {l:List α} (i:Nat),i < 6->aI f t size W w0.heap.size (PR u v r i) l->aI f t size Kx w0.heap.size (PR u v r i) l:=λ i hi ho=>ho.keep λ g hg=>afW g (λ e=>hf.k4.2.2 i hi (e▸hg)) (λ e=>hf.k5.2.2 i hi (e▸hg)) (λ e=>hf.kD.2.2 i hi (e▸hg))
 refine⟨gp,r,u,v,ya,yi,yh,yo,he,⟨?_,hf.low,(afW gp (Ne.symm hf.k4.2.1) (Ne.symm hf.k5.2.1) (Ne.symm hf.kD.2.1)).trans hp.blk,hrow 0 WC hp.o0,hrow 1 WC hp.o1,hrow 2 WC (Sj▸hp.o2),hrow 3 WC hp.o3,hrow 4 WC hp.o4,hrow 5 WC hp.o5,hp.aJ,Tr.aO.ex hex hS _ _ hp.t3,Tr.aO.ex hex hS _ _ hp.t4,Tr.aO.ex hex hS _ _ hp.t5⟩⟩;rw[hW];exact uS ((hf.base.setCell (p:=⟨g4,0,none⟩) hf.new.1 _).setCell (p:=⟨g5,0,none⟩) hf.new.2.1 _) hDl):p:=h
theorem QZ (q:Qy)(L:QL)(CA:Option Addr)(cc:Nat)(cols:List aX)(w0:World)(JQ:pY w0 q L)(aZ:q.Ok)(cf:cols.length<=1000)(hq:Dt (Af q L CA cc cols) w0 q L cols):
  ar 28 #[mR q L,.slice CA cols.length cc] w0 (Jw q L CA cc cols w0):=by
 refine(MS q L CA cc cols w0 JQ aZ cf hq).mono ?_;rintro e Kx (⟨er,h1,h2,h3,h4⟩|⟨gp,g2,g4,g5,D,r,W,u,v,ya,s,hd,yi,yh,yo,ti,th,eD,hn,hr,he,hDl,hp,hW⟩)
 ·have hx:dS q cols=.error er:=by
   rcases h1 with ⟨hb,rfl⟩|⟨hb,hr⟩
   ·exact S2 cols hb
   ·have hr:rX q.aK q.aL cols q=.error er:=hr;rw[GN cols hb,hr]
  unfold Jw;rw[hx];exact⟨h2,h3,h4⟩
 ·have hr:rX q.aK q.aL cols q=.ok (ti,hd,th,eD,s):=hr;have hx:dS q cols=.ok ⟨q.aK,if q.items=[] then cols else hd,s,ti,th,eD⟩:=by rw[GN cols hn,hr]
  have Sj:((if q.items=[] then cols else [])++hd)=(if q.items=[] then cols else hd):=by
   by_cases hi:q.items=[]
   ·rw[if_pos hi,if_pos hi,Wy hi hr,append_nil]
   ·rw[if_neg hi,if_neg hi,nil_append]
  unfold Jw;rw[hx];have hf:=hp.f;open zhl in exact Zfb
theorem Dt.later{w:World}(h:Dt (Af q L CA cc cols) w q L hd)(hb:aj w w'):Dt (Af q L CA cc cols) w' q L hd:=
 ⟨⟨h.ok.env.later hb,h.ok.aL.later hb,h.ok.gok,h.ok.gl,h.ok.cols.later hb,h.ok.cl⟩,h.qw,h.iw.later hb,h.nw,h.qg,h.ig.later hb,h.ng,h.qi,h.ii.later hb,h.ni,h.nh,h.qh,h.ih.later hb,h.nhv,h.qo,h.io.later hb,h.no,h.len⟩
def ajf (gb:Nat)(le:Int):Nat->World->Value->Prop
 | 0,_,v=>v=aw gb
 | 1,_,v=>v=af le
 | 2,_,v=>v=az
 | 3,_,v=>v=af le
 | _,_,_=>False
theorem Ra (gb:Nat)(le:Int):∀i w w' v,ajf gb le i w v->ai w w'->ajf gb le i w' v:=by
 intro i w w' v h hl
 match i with
 | 0 | 1 | 2 | 3=>exact h
 | n+4=>exact h
theorem adS (gb:Nat)(e0:Int)(lv:Value)(T:Array Value)(hT:T.size=164)(h9:T.getD 9 undef=aw gb)(h10:T.getD 10 undef=lv)(d:List Deferred)(w:World)(Q:Exit->Act->World->Prop)(cJ:aB w gb 84 #[af e0])
  (hE:e0≠0->∀a W,a.defers=d->a.tmps.getD 4 undef=az->a.tmps.getD 5 undef=af e0->aj w W->Q .ret a W)
  (hO:e0=0->∀T':Array Value,T'.size=164->T'.getD 9 undef=aw gb->T'.getD 10 undef=lv->(fy gU 8).wp Tryz.prog Q { tmps:=T',defers:=d } w):
  (fy gU 7).wp Tryz.prog Q { tmps:=T,defers:=d } w:=by
 obtain⟨f,rfl⟩:=Jl T hT;have h9:f 9=_:=h9;have h10:f 10=_:=h10;simp only[frg,h9,h10];clear h9 h10;clear h9 h10 hT;have hh:=λ h0 (T':Array Value) a0 a1 a2=>hO h0 T' a0 a1 a2
 simp only[gU,fy,Tryz.f33,Option.getD_some] at hh;have HH:=aa hh;have HE:=aa hE;have Q3:=aa cJ;have cb:=cJ.cell 0;simp only[getElem?_toArray,getElem?_cons_zero] at cb;clear hh hO hE cJ;simp only[gU,fy,Tryz.f33,Option.getD_some];refine wp_seq_k λ K hK=>?_
 have HK:=aa hK;clear hK;by_cases h:e0=0
 ·have t1:(e0 != 0)=false:=by simp[h]
  have H:=aa h;clear h;go_wp2_with fail;exact HK.ae _ _ (HH.ae H.ae _ rfl rfl rfl)
 ·have t1:(e0 != 0)=true:=by simp[h]
  have H:=aa h;clear h;go_upto_region 23 with fail;clear cb;refine bC 4 (ajf gb e0) (Ra _ _) Taa Taa Taa ?_ ?_
  ·simp only[take_succ_cons,take_zero];refine⟨Zaa,Zbp,Zge,Zaa,trivial⟩
  intro W3 hL;simp only[Uab];rintro _ rfl _ rfl _ rfl _ rfl;simp only[bE,Act.put,Uac];go_wp2_with fail;exact HE.ae H.ae _ _ rfl rfl rfl hL
theorem zgl.Kby(h:p:=by
 go_wp2_with fail;clear c9;go_loopw [6,31] (λ av i wr=>∃k:Nat,k<=aL.length/\i=af k/\aI bH 46 7 wr w.heap.size av ((ls.take k).flatMap tP.ys)/\aj w wr) (λ _ i _=>aL.length - (intOf i).toNat);case atStart=>exact ZcH
 case round=>
  obtain⟨k,hk,rfl,hp,hb⟩:=hrel;have HP:=aa hp;clear hp;by_cases hlt:k < aL.length
  ·obtain⟨b,off,rfl,kF,hex⟩:=(IH.ae.ra.below hb).at_ hlt;have hlk:k < ls.length:=by rw[HFN.ae];exact hlt
   have hk9:k<=100000:=by have:=Q5.ae;omega
   obtain⟨e1,e2,e3,Gs⟩:=Q3.ae k aL[k] ls[k] (getElem?_eq_getElem hlt) (getElem?_eq_getElem hlk);have oZ:=aa (show(ls.take (k+1)).flatMap tP.ys=(ls.take k).flatMap tP.ys++ls[k].ys by rw[take_add_one,getElem?_eq_getElem hlk,flatMap_append];simp)
   have aqb:((ls.take k).flatMap tP.ys).length+ls[k].ys.length<=100000:=by
    have h1:((ls.take (k+1)).flatMap tP.ys).length<=(ls.flatMap tP.ys).length:=by
     have h2:ls.flatMap tP.ys=(ls.take (k+1)).flatMap tP.ys++(ls.drop (k+1)).flatMap tP.ys:=by rw[<- flatMap_append,take_append_drop]
     rw[h2,length_append];omega
    rw[oZ.ae,length_append] at h1;have:=Q4.ae;omega
   have HRE:=aa ((Gs.below hb).more hb.size);generalize aL[k]=y at*;generalize ls[k]=x at*;generalize (ls.take k).flatMap tP.ys=zs at*;unfold cw at hex;rw[e1,e2,e3] at hex;clear e1 e2 e3 Gs hlk;go_upto_region 5 with fail;have bY:=ah wr (.cells #[ag y.op,ag y.v.k,af y.v.n,.string y.v.s,.string y.name,af y.width,.slice x.A x.ys.length x.c] 46);have HX:=aB.new wr 46 #[ag y.op,ag y.v.k,af y.v.n,.string y.v.s,.string y.name,af y.width,.slice x.A x.ys.length x.c];have x6:=HX.cell 6;simp only[Uaa] at x6;have Lz:=aa (HP.ae.later bY);have uA:=aa (HRE.ae.later bY).reads;have hb2:=ai.then hb bY
   have hbase:=hb2.size;obtain⟨i0,kZ,hg4,oy,HZ⟩:=info_parts fI;have HI:=aa kZ;have JO:=aa hg4;have Gi:=aa oy;have tD:=aa HZ;have aCN:=aqb;clear bY HX hex kF hb HP HRE kZ hg4 oy HZ;go_wp2_with (first
    |(at_builtin
      refine cM _ rfl (.tmp 35) (.tmp 37) 23 rfl w.heap.size 46 i0 _ 7 88 Tryz.underlying23 HI.ae JO.ae Gi.ae tD.ae rfl WC _ zs.length (zs.flatMap bH) rfl Lz.ae _ x.A x.ys.length x.c (x.ys.flatMap bH) rfl uA.ae (PE x.ys) Tan WC hbase ?_
      intro v4 w4 o4 g4 _
      have O4:=aa (show aI bH 46 7 w4 w.heap.size v4 (zs++x.ys) by
       unfold aI
       rw[length_append,flatMap_append]
       exact o4)
      have B4:=aa (br Lz.ae g4 hbase)
      clear o4 g4))
   go_roundw;case rel=>exact⟨k+1,hlt,by go_num,by rw[oZ.ae];exact O4.ae,hb2.trans B4.ae⟩
   case measure=>exact Za1
  ·have fH:k=aL.length:=by omega
   subst fH;have HAV:=aa (show aI bH 46 7 wr w.heap.size u6 (ls.flatMap tP.ys) by have h1:=HP.ae;rwa [<- HFN.ae,take_length] at h1);clear HP;go_wp2_with fail;refine II.ae _ _ ?_;clear II hlt hk;have b1:=ah wr (.cells #[af 0] 84);have k1:=aB.new wr 84 #[af 0];have yN:=aa k1;have ajg:=aa (HAV.ae.later b1);have eL:=aa (Below.trans hb (b1.mono hb.size));have HLT:=aa hb.size;clear b1 k1 HAV hb;refine wp_seq_k λ K0 hK=>?_
   have HK:=aa hK;clear hK;go_wp2_with fail;refine HK.ae _ _ ?_;clear HK;generalize wr.alloc (.cells #[af 0] 84)=W1 at*;generalize wr.heap.size=gb at*;refine wp_seq_k λ K4 hK4=>?_
   have CI:=aa hK4;clear hK4;go_wp2_with fail;refine CI.ae _ _ ?_;clear CI;refine wp_seq_k λ K5 hK5=>?_
   have HK5:=aa hK5;clear hK5;have Pt:=aa (IH.ae.later eL.ae);have c4:=Pt.ae.c4;rw[Q1.ae] at c4;by_cases hg0:gn=0
   ·have t1:((gn:Int)==0)=true:=by simp[hg0]
    have HG0:=aa hg0;clear hg0;go_wp2_with fail;clear c4 t1;refine(FZ gp aL AA ac none 0 0 W1 (by have:=Q5.ae;omega) Pt.ae.lt Pt.ae.c9 Pt.ae.ra oz.ae).mono ?_;rintro e w2 ⟨gg,sv,qs,rfl,ee,IQ,hgk,I3,Te,b2⟩;have bN:=ah w2 (.cells #[aw gg] 135);have hNB:=aB.new w2 135 #[aw gg];have K8:=eL.ae.size;have b3:=ai.then b2 bN
    have xe:=aa (show kx (w2.alloc (.cells #[aw gg] 135)) w.heap.size [⟨gg,none,0,[],sv,qs,aL.map λ y=>fh y.op⟩] from kx.later ⟨λ x hx=>by
     rw[mem_singleton] at hx
     subst hx
     exact⟨hgk,Nat.le_trans K8 ee,I3.down K8,Te.down K8,.inl rfl,λ a ha=>by cases ha⟩,pairwise_singleton _ _⟩ bN)
    have avG:=aa (ajg.ae.later b3);have avH:=aa (yN.ae.later b3);have fE:=aa (Below.trans eL.ae (b3.mono K8));have pU:=aa hNB;have hbase:=fE.ae.size;have XI:=aa (show od gn aJ [⟨gg,none,0,[],sv,qs,aL.map λ y=>fh y.op⟩] [] [] from⟨by unfold fp;rw[if_pos HG0.ae];rfl,λ x hx=>by
     rw[mem_singleton] at hx
     subst hx
     show aL.map (λ y=>fh y.op)=_
     rw[Cy (λ p KK=>by cases KK),<- E1.ae,map_map]
     rfl⟩)
    clear bN hNB b2 b3 K8 hgk I3 Te IQ ee ajg yN eL Pt;go_wp2_with (first
     |(at_builtin
       refine aU (f:=cY) (l:=[]) rfl (.tmp 47) (.tmp 50) 134 rfl _ 8 Tryz.underlying134 Cp rfl WC gg rfl TaY rfl aI.nil w2.heap.size rfl pU.ae Tad Tad hbase ?_
       intro v4 w4 o4 g4
       have O4:=aa o4
       have B4:=aa (show Below (w2.alloc (.cells #[aw gg] 135)).heap.size _ w4 from pC g4)
       clear o4 g4))
    exact HK5.ae _ _ (HF.ae _ u6 _ gb [⟨gg,none,0,[],sv,qs,aL.map λ y=>fh y.op⟩] _ rfl rfl rfl rfl rfl rfl (Below.trans fE.ae (B4.ae.mono hbase)) (avG.ae.later B4.ae) (avH.ae.later B4.ae) HLT.ae O4.ae (xe.ae.later B4.ae) XI.ae)
   ·have t1:((gn:Int)==0)=false:=by simp[hg0]
    have HG0:=aa hg0;clear hg0;go_wp2_with fail;exact HK5.ae _ _ (HF.ae _ u6 _ gb [] _ rfl rfl rfl rfl rfl rfl eL.ae ajg.ae yN.ae HLT.ae aI.nil .nil ⟨by unfold fp;rw[if_neg HG0.ae];rfl,λ x hx=>by cases hx⟩)):p:=h
theorem zgQ.KbK(h:p:=by
 have oz:=aa Av;have E1:=aa Tp;have c9:=ih.c9;clear h hF ih q1 q2 q3 q4 q5 Av Tp;simp only[gU,fy,Tryz.f33,Option.getD_some];refine wp_seq_k λ Kx oI=>?_
 have Hm:=aa oI;clear oI;go_wp2_with fail;refine Hm.ae _ _ ?_;open zgl in exact Zej):p:=h
theorem WE (gp gn:Nat)(Lw aJ:List Tr)(cols:List aX)(yg aL:List Ex)(ls:List tP)(GA:Option Addr)(gc:Nat)(CA:Option Addr)(cc:Nat)(AA:Option Addr)(ac:Nat)(rv:Value)(T:Array Value)(hT:T.size=164)
  (h0:T.getD 0 undef=aw gp) (h1:T.getD 1 undef=rv) (d:List Deferred) (w:World) (Q:Exit->Act->World->Prop)
  (ih:CY w gp Lw aJ cols yg aL GA gc CA cc AA ac) (q1:yg.length=gn) (q2:ls.length=aL.length) (q3:∀(i:Nat) y x,aL[i]?=some y->ls[i]?=some x->y.A=x.A/\y.n=x.ys.length/\y.c=x.c/\RE w w.heap.size x.A x.ys) (q4:(ls.flatMap tP.ys).length<=100000) (q5:aL.length<=100000) (Av:∀y∈aL,isAgg y.op=true) (Tp:aL.map Ex.op=aJ.map Tr.op)
  (h:∀(T':Array Value) av lv gb xs W,T'.size=164->T'.getD 0 undef=aw gp->T'.getD 1 undef=rv->T'.getD 6 undef=av->T'.getD 9 undef=aw gb->T'.getD 10 undef=lv->aj w W->aI bH 46 7 W w.heap.size av (ls.flatMap tP.ys)->aB W gb 84 #[af 0]->w.heap.size<=gb->aI cY 135 1 W w.heap.size lv (xs.map gG.g)->kx W w.heap.size xs->od gn aJ xs [] []->(fy gU 6).wp Tryz.prog Q { tmps:=T',defers:=d } W):
  (fy gU 0).wp Tryz.prog Q { tmps:=T,defers:=d } w:=by
 obtain⟨f,rfl⟩:=Jl T hT;have h0:f 0=_:=h0;have h1:f 1=_:=h1;simp only[frg,h0,h1];clear h0 h1;clear h0 h1 hT;have hF:=λ(T':Array Value) av lv gb xs W a0 a1 a2 a3 a4 a5 a6 a7 a8 a9 b0 b1 b2=>h T' av lv gb xs W a0 a1 a2 a3 a4 a5 a6 a7 a8 a9 b0 b1 b2
 simp only[gU,fy,Tryz.f33,Option.getD_some] at hF;open zgQ in exact ZeA
noncomputable def wW (aL aJ:List Tr) (cols:List aX) (rows:List (List Val)):Except Int (List (List Val)):=match Ee (rows.map λ r=>bB cols r (aL++aJ.flatMap Tr.args))with
 | .error e=> .error e
 | .ok l=>jP aL.length aJ l
def S7 (aL aJ:List Tr)(cols:List aX)(rows:List (List Val))(w0:World)(e:Ending)(W:World):Prop:=aj w0 W/\match wW aL aJ cols rows with
 | .error er=>er≠0/\∃v,e=.returned (.tuple #[v,af er])
 | .ok gs=>∃v cl,e=.returned (.tuple #[v,af 0])/\aI ck 38 1 W w0.heap.size v cl/\Mine W w0.heap.size cl/\cl.map (·.l)=gs
variable{rows:List aW}
theorem Dv{aJ:List Tr}  :wW aL aJ cols (rows.map (·.l))=if dZ cols (aL++aJ.flatMap Tr.args) rows≠0 then .error (dZ cols (aL++aJ.flatMap Tr.args) rows)else jP aL.length aJ (fq cols (aL++aJ.flatMap Tr.args) rows):=by
 have e1:((rows.map (·.l)).map λ r=>bB cols r (aL++aJ.flatMap Tr.args)).map exE=rows.map λ r=>np (bB cols r.l (aL++aJ.flatMap Tr.args)):=by
  rw[map_map,map_map];refine map_congr_left λ r _=>?_
  show exE (bB cols r.l (aL++aJ.flatMap Tr.args))=_;cases bB cols r.l (aL++aJ.flatMap Tr.args)<;> rfl
 have e2:((rows.map (·.l)).map λ r=>bB cols r (aL++aJ.flatMap Tr.args)).filterMap ur=fq cols (aL++aJ.flatMap Tr.args) rows:=by unfold fq;rw[map_map,filterMap_map];congr 1;funext r;show ur (bB cols r.l (aL++aJ.flatMap Tr.args))=_;cases bB cols r.l (aL++aJ.flatMap Tr.args)<;> rfl
 unfold wW;rw[Mt,e1,e2];unfold dZ;by_cases h:dx (rows.map λ r=>np (bB cols r.l (aL++aJ.flatMap Tr.args)))=0
 ·rw[if_neg (by simp[h]),if_neg (by simp[h])]
 ·rw[if_pos h,if_pos h]
theorem S8{aJ:List Tr}  (h:dZ cols (aL++aJ.flatMap Tr.args) rows≠0):wW aL aJ cols (rows.map (·.l))=.error (dZ cols (aL++aJ.flatMap Tr.args) rows):=by rw[Dv,if_pos h]
variable{xs:List gG}
theorem adU{aJ:List Tr}   (h:dZ cols (aL++aJ.flatMap Tr.args) rows=0)(hI:od aL.length aJ xs (fq cols (aL++aJ.flatMap Tr.args) rows) (fq cols (aL++aJ.flatMap Tr.args) rows)):wW aL aJ cols (rows.map (·.l))=if qm xs≠0 then .error (qm xs)else .ok (Ev xs):=by
 rw[Dv,if_neg (by simp[h])];generalize fq cols (aL++aJ.flatMap Tr.args) rows=ls at*;have hk:(if aL.length=0 then [[]] else iN ((fV aL.length aJ ls).map (·.1)))=xs.map gG.key:=by rw[hI.keys];unfold fp fV;rw[map_map];rfl
 have e1:dx ((xs.map gG.key).map λ k=>cL (dP (aJ.map Tr.op) (fV aL.length aJ ls) k))=qm xs:=by
  unfold qm;rw[map_map];congr 1;exact map_congr_left λ x hx=>by show cL (dP (aJ.map Tr.op) (fV aL.length aJ ls) x.key)=_;rw[jb,hI.qD x hx]
 have e2:(xs.map gG.key).map (λ k=>k++(dP (aJ.map Tr.op) (fV aL.length aJ ls) k).map (·.1))=Ev xs:=by
  unfold Ev;rw[map_map];exact map_congr_left λ x hx=>by show x.key++(dP (aJ.map Tr.op) (fV aL.length aJ ls) x.key).map (·.1)=_;rw[jb,hI.qD x hx]
 unfold jP;show(if dx ((if aL.length=0 then [[]] else iN ((fV aL.length aJ ls).map (·.1))).map λ k=>cL (dP (aJ.map Tr.op) (fV aL.length aJ ls) k))≠0 then Except.error (dx ((if aL.length=0 then [[]] else iN ((fV aL.length aJ ls).map (·.1))).map λ k=>cL (dP (aJ.map Tr.op) (fV aL.length aJ ls) k)))else .ok ((if aL.length=0 then [[]] else iN ((fV aL.length aJ ls).map (·.1))).map λ k=>k++(dP (aJ.map Tr.op) (fV aL.length aJ ls) k).map (·.1)))=_;rw[hk,e1,e2]
theorem adV:Tryz.f33.body=some gU:=by unfold gU;simp only[Tryz.f33,Option.getD_some]
theorem adW (a b:Value):(#[a,b]++Array.replicate (Tryz.f33.ntmps - (#[a,b]:Array Value).size) undef).size=164:=by simp[Tryz.f33]
theorem S9(h4:T.getD 4 undef=a)(h5:T.getD 5 undef=b):(results Tryz.f33 T).run Tryz.prog W=.ok (.tuple #[a,b]) W:=by
 have e4:T[4]?.getD undef=a:=by rw[<- h4];simp[Array.getD_eq_getD_getElem?]
 have e5:T[5]?.getD undef=b:=by rw[<- h5];simp[Array.getD_eq_getD_getElem?]
 simp[results,Tryz.f33,go_sem,e4,e5]
theorem Rb (gp:Nat)(aL aJ:List Tr)(cols:List aX)(yg ya:List Ex)(GA:Option Addr)(gc:Nat)(CA:Option Addr)(cc:Nat)(AA:Option Addr)(ac:Nat)(rows:List aW)(RA:Option Addr)(rrc:Nat)(w:World)
  (hEV:CY w gp aL aJ cols yg ya GA gc CA cc AA ac) (kI:ya.map Ex.op=aJ.map Tr.op) (hagg:∀t∈aJ,isAgg t.op=true) (I9:∀t∈aJ,t.args.length<=2) (Jn:Tr.cN (aL++aJ.flatMap Tr.args)) (zT:aL.length<=1000) (xp:aJ.length<=50000) (cf:cols.length<=140737488355328)
  (hR:RR w w.heap.size RA rows) (Qs:rows.length<=300) (kN:∀r∈rows,r.l.length<=140737488355328/\∀v∈r.l,v.Ok):
  ar 33 #[aw gp,.slice RA rows.length rrc] w (S7 aL aJ cols (rows.map (·.l)) w):=by
 obtain⟨ls,ft,hl2,ub,hl4⟩:=wE aJ ya hEV.ta;have Xm:=dX hEV.tg;have yu:=dX hEV.ta
 have hle:(ls.flatMap tP.ys).length<=100000:=by
  rw[<- dX ub,length_flatMap]
  have:∀l:List Tr,(∀t∈l,t.args.length<=2)->(l.map λ t=>t.args.length).sum<=2*l.length:=by
   intro l
   induction l with
   | nil=>intro _;simp
   | cons t l ih=>
     intro h;have h1:=h t (mem_cons_self ..);have h2:=ih λ u hu=>h u (mem_cons_of_mem _ hu)
     rw[map_cons,sum_cons,length_cons];omega
  have:=this aJ I9;omega
 have aqd:∀y∈ya,isAgg y.op=true:=λ y hy=>by
  have h1:y.op∈aJ.map Tr.op:=by rw[<- kI];exact mem_map_of_mem hy
  obtain⟨t,ht,he⟩:=List.mem_map.1 h1;rw[<- he];exact hagg t ht
 refine calls_of_wp Tryz.func33 adV ?_;obtain⟨T,JR⟩:∃T:Array Value,T= #[aw gp,.slice RA rows.length rrc]++Array.replicate (Tryz.f33.ntmps - (#[aw gp,.slice RA rows.length rrc]:Array Value).size) undef:=⟨_,rfl⟩;rw[<- JR];have hT:T.size=164:=by rw[JR];exact adW _ _
 have t0:T.getD 0 undef=aw gp:=by rw[JR];simp[Array.getD_eq_getD_getElem?]
 have t1:T.getD 1 undef=.slice RA rows.length rrc:=by rw[JR];simp[Array.getD_eq_getD_getElem?]
 clear JR;refine WE gp aL.length aL aJ cols yg ya ls GA gc CA cc AA ac (.slice RA rows.length rrc) T hT t0 t1 [] w _ hEV Xm.symm ft hl2 hle WC aqd kI ?_;intro T1 av lv gb xs0 W1 s1 s2 s3 s4 s5 s6 b1 o1 k1 g1 l1 x1 i1;refine I8 w gp gb aL.length aL aJ cols yg ya (ls.flatMap tP.ys) GA gc CA cc AA ac rows RA rrc av lv xs0 T1 s1 s2 s3 s4 s5 s6 [] W1 _ hEV Xm.symm ub hl4 kI hagg I9 Jn WC WC hle cf hR Qs kN b1 o1 k1 g1 l1 x1 i1 ?_;intro T2 lv2 xs W2 s1 s2 s3 b2 k2 l2 x2 i2;have hlen:(fq cols (aL++aJ.flatMap Tr.args) rows).length<=rows.length:=uL _ _ _;refine adS gb _ lv2 T2 s1 s2 s3 [] W2 _ k2 ?_ ?_
 ·intro hne a W e1 e2 e3 bW;refine⟨e1,_,S9 e2 e3,Below.trans b2 (bW.mono b2.size),?_⟩;rw[S8 hne];exact⟨hne,_,rfl⟩
 ·intro hz T3 s1 s2 s3;rw[hz] at k2;have hxl:xs.length<=301:=by have h1:=congrArg List.length i2.keys;rw[length_map] at h1;have h2:=xW aL.length ((fq cols (aL++aJ.flatMap Tr.args) rows).map λ l=>l.take aL.length);rw[length_map] at h2;omega
  obtain⟨LA,lc,hlv,_,J4⟩:=wD l2;rw[length_map] at hlv;have pE:∀x∈xs,∀s∈x.ss,(s.Ok/\s.all < 4611686018427387904)/\∃v e,gH s v e:=λ x hx s hs=>by rw[i2.qD x hx] at hs;exact uK (λ op ho=>by obtain⟨t,ht,rfl⟩:=List.mem_map.1 ho;exact hagg t ht) (by unfold fV;rw[length_map];omega) s hs
  refine acD xs w.heap.size LA lc gb T3 s1 s2 (s3.trans hlv) [] W2 _ k2 J4 ?_ x2 WC ?_ (λ x hx s hs=>⟨(pE x hx s hs).1.1,(pE x hx s hs).2⟩) ?_
  ·intro a ha e;have:lv2.ownBlock=some gb:=by rw[hlv,fB,ha,<- e];rfl
   exact l2.other k2 Tab this
  ·intro x hx;refine⟨?_,?_⟩
   ·have:=rO (by rw[<- i2.keys];exact mem_map_of_mem hx);omega
   ·rw[i2.qD x hx,nj,length_map];omega
  ·intro a W ov cl e1 e2 e3 o3 m3 r3 g3;have hb3:aj w W:=dQ b2 g3 g1;refine⟨e1,_,S9 e2 e3,hb3,?_⟩;rw[adU hz i2];by_cases he:qm xs=0
   ·rw[if_neg (by simp[he]),he];exact⟨_,cl,rfl,o3.down b2.size,λ r hr=>(m3 r hr).down b2.size,r3 he⟩
   ·rw[if_pos he];exact⟨he,_,rfl⟩
variable{op:Int}{args:List Tr}
theorem WG(h:(fS cols op args).2=0):args.length<=2:=by
 unfold fS at h;split at h
 ·rename_i h1;exact absurd h h1
 ·unfold jE at h;split at h
  ·cases h
  ·rename_i h2;rw[length_map,Tr.oM] at h2;have h2:(args.length:Int)=ix op:=Decidable.byContradiction h2;rcases KX (op:=op)with e | e | e <;> omega
def om (s:dy):Prop:=∀a∈s.aJ,a.args.length<=2
mutual
theorem Tr.MT (aL:List Tr)(cols:List aX):∀(t:Tr) (s:dy) (y:Tr) (s':dy),t.turn aL cols s=.ok (y,s')->om s->om s'
 | .mk op v name width args,s,y,s',h,hs=>by
   unfold Tr.turn at h;split at h
   ·injection h with h;injection h with h1 h2;rw[<- h2];exact hs
   ·split at h
    ·rename_i hop;split at h
     ·cases h
     ·rename_i hty;injection h with h;injection h with h1 h2;rw[<- h2];intro a ha;rcases List.mem_append.1 ha with ha | ha
      ·exact hs a ha
      ·rw[mem_singleton] at ha;rw[ha];have h9:=WG (cols:=cols) (op:=op) (args:=args) (Decidable.byContradiction hty);exact h9
    ·split at h
     ·cases h
     ·rename_i ys s1 h1;split at h
      ·cases h
      ·split at h
       ·cases h
       ·injection h with h;injection h with h3 h4;rw[<- h4];exact Tr.GQ aL cols args s ys s1 h1 hs
theorem Tr.GQ (aL:List Tr)(cols:List aX):∀(ts:List Tr) (s:dy) (ys:List Tr) (s':dy),Tr.turns aL cols ts s=.ok (ys,s')->om s->om s'
 | [],s,ys,s',h,hs=>by unfold Tr.turns at h;injection h with h;injection h with h1 h2;rw[<- h2];exact hs
 | t::ts,s,ys,s',h,hs=>by
   unfold Tr.turns at h;split at h
   ·cases h
   ·rename_i y s1 h1;split at h
    ·cases h
    ·rename_i Xv s2 h2;injection h with h;injection h with h3 h4;rw[<- h4];exact Tr.GQ aL cols ts s1 Xv s2 h2 (Tr.MT aL cols t s y s1 h1 hs)
end
variable{y:Tr}{k:Int}{s':dy}
theorem Jy{g:Bool}   {t:Tr}    (h:pd g aL cols t s=.ok (y,k,s'))(hs:om s):om s':=by
 unfold pd at h;split at h
 ·exact ZfH
 ·split at h
  ·cases h
  ·rename_i y1 s1 h1;split at h
   ·cases h
   ·injection h with h;injection h with h2 h;injection h with h3 h4;rw[<- h4];exact Tr.MT aL cols t s y1 s1 h1 hs
theorem GR{g:Bool}  :∀ {l:List (Tr×ByteArray)} {s:dy} {ys:List Tr} {hd:List aX} {s':dy},dm g aL cols l s=.ok (ys,hd,s')->om s->om s'
 | [],s,ys,hd,s',h,hs=>by unfold dm at h;injection h with h;injection h with h1 h;injection h with h2 h3;rw[<- h3];exact hs
 |(t,nm)::l,s,ys,hd,s',h,hs=>by
  unfold dm at h;split at h
  ·cases h
  ·rename_i y k s1 h1;split at h
   ·cases h
   ·rename_i Xv SY s2 h2;injection h with h;injection h with h3 h;injection h with h4 h5;rw[<- h5];exact GR h2 (Jy h1 hs)
theorem Dw{g:Bool}  :∀ {l:List Tr} {s:dy} {ys:List Tr} {s':dy},dz g aL cols l s=.ok (ys,s')->om s->om s'
 | [],s,ys,s',h,hs=>by unfold dz at h;injection h with h;injection h with h1 h2;rw[<- h2];exact hs
 | t::l,s,ys,s',h,hs=>by
   unfold dz at h;split at h
   ·cases h
   ·rename_i y k s1 h1;split at h
    ·cases h
    split at h
    ·cases h
    ·rename_i Xv s2 h2;injection h with h;injection h with h3 h4;rw[<- h4];exact Dw h2 (Jy h1 hs)
theorem GU{g:Bool}  :∀ {l:List (Tr×Bool)} {s:dy} {ys:List Tr} {s':dy},eu g aL cols l s=.ok (ys,s')->om s->om s'
 | [],s,ys,s',h,hs=>by unfold eu at h;injection h with h;injection h with h1 h2;rw[<- h2];exact hs
 |(t,d)::l,s,ys,s',h,hs=>by
  unfold eu at h;split at h
  ·cases h
  ·rename_i y k s1 h1;split at h
   ·cases h
   ·rename_i Xv s2 h2;injection h with h;injection h with h3 h4;rw[<- h4];exact GU h2 (Jy h1 hs)
theorem zf5.Kbt(h:p:=by exact GU h3 (Dw h2 (GR h1 (λ a ha=>by cases ha)))):p:=h
theorem T7{p:ji}(h:dS q cols=.ok p):om p.st:=by
 open zf5 in exact Zd1
theorem MU{g:Bool}  :∀ {l:List (Tr×ByteArray)} {s:dy} {ys:List Tr} {hd:List aX} {s':dy},dm g aL cols l s=.ok (ys,hd,s')->Tr.cN (l.map (·.1))->Tr.cN s.aJ->Tr.cN ys/\Tr.cN s'.aJ/\hd.length=l.length/\s'.aL.length+s'.aJ.length<=s.aL.length+s.aJ.length+2*Tr.aQ (l.map (·.1))
 | [],s,ys,hd,s',h,_,hs=>by unfold dm at h;injection h with h;injection h with h1 h;injection h with h2 h3;subst h1 h2 h3;exact⟨by unfold Tr.cN;trivial,hs,rfl,by omega⟩
 |(t,nm)::l,s,ys,hd,s',h,ho,hs=>by
  unfold dm at h;rw[map_cons] at ho ⊢;unfold Tr.cN at ho;have hf:=lM g aL cols t s;split at h
  ·cases h
  rename_i y k s1 hy;split at h
  ·cases h
  rename_i Xv SY s2 h2;injection h with h;injection h with h3 h;injection h with h4 h5;subst h3 h4 h5;have e1:=hf.ok _ _ _ hy ho.1;have e2:=hf.aok _ _ _ hy ho.1 hs;have e3:=hf.len _ _ _ hy;obtain⟨f1,f2,f3,f4⟩:=MU h2 ho.2 e2;have e4:Tr.aQ (t::l.map (·.1))=t.nodes+Tr.aQ (l.map (·.1)):=by rw[Tr.aQ]
  refine⟨by unfold Tr.cN;exact⟨e1,f1⟩,f2,by simp[f3],by rw[e4];omega⟩
theorem GV{g:Bool}  :∀ {l:List Tr} {s:dy} {ys:List Tr} {s':dy},dz g aL cols l s=.ok (ys,s')->Tr.cN l->Tr.cN s.aJ->Tr.cN ys/\Tr.cN s'.aJ/\ys.length=l.length/\s'.aL.length+s'.aJ.length<=s.aL.length+s.aJ.length+2*Tr.aQ l
 | [],s,ys,s',h,_,hs=>by unfold dz at h;injection h with h;injection h with h1 h3;subst h1 h3;exact⟨by unfold Tr.cN;trivial,hs,rfl,by omega⟩
 | t::l,s,ys,s',h,ho,hs=>by
   unfold dz at h;unfold Tr.cN at ho;have hf:=lM g aL cols t s;split at h
   ·cases h
   rename_i y k s1 hy;split at h
   ·cases h
   split at h
   ·cases h
   rename_i Xv s2 h2;injection h with h;injection h with h3 h5;subst h3 h5;have e1:=hf.ok _ _ _ hy ho.1;have e2:=hf.aok _ _ _ hy ho.1 hs;have e3:=hf.len _ _ _ hy;obtain⟨f1,f2,f3,f4⟩:=GV h2 ho.2 e2;have e4:Tr.aQ (t::l)=t.nodes+Tr.aQ l:=by rw[Tr.aQ]
   refine⟨by unfold Tr.cN;exact⟨e1,f1⟩,f2,by simp[f3],by rw[e4];omega⟩
theorem MV{g:Bool}  :∀ {l:List (Tr×Bool)} {s:dy} {ys:List Tr} {s':dy},eu g aL cols l s=.ok (ys,s')->Tr.cN (l.map (·.1))->Tr.cN s.aJ->Tr.cN ys/\Tr.cN s'.aJ/\ys.length=l.length/\s'.aL.length+s'.aJ.length<=s.aL.length+s.aJ.length+2*Tr.aQ (l.map (·.1))
 | [],s,ys,s',h,_,hs=>by unfold eu at h;injection h with h;injection h with h1 h3;subst h1 h3;exact⟨by unfold Tr.cN;trivial,hs,rfl,by omega⟩
 |(t,b)::l,s,ys,s',h,ho,hs=>by
  unfold eu at h;rw[map_cons] at ho ⊢;unfold Tr.cN at ho;have hf:=lM g aL cols t s;split at h
  ·cases h
  rename_i y k s1 hy;split at h
  ·cases h
  rename_i Xv s2 h2;injection h with h;injection h with h3 h5;subst h3 h5;have e1:=hf.ok _ _ _ hy ho.1;have e2:=hf.aok _ _ _ hy ho.1 hs;have e3:=hf.len _ _ _ hy;obtain⟨f1,f2,f3,f4⟩:=MV h2 ho.2 e2;have e4:Tr.aQ (t::l.map (·.1))=t.nodes+Tr.aQ (l.map (·.1)):=by rw[Tr.aQ]
  refine⟨by unfold Tr.cN;exact⟨e1,f1⟩,f2,by simp[f3],by rw[e4];omega⟩
theorem GX:∀ {l:List Tr} {k:Nat} {gc:List aX},kO cols l k=.ok gc->gc.length=l.length
 | [],k,gc,h=>by unfold kO at h;injection h with h;subst h;rfl
 | t::ts,k,gc,h=>by
   unfold kO at h;split at h
   ·cases h
   split at h
   ·cases h
   rename_i l hg;injection h with h;subst h;rw[length_cons,length_cons,GX hg]
structure Rc (q:Qy) (p:ji):Prop where
 items:Tr.cN p.items
 having:Tr.cN p.having
 order:Tr.cN p.order
 aJ:Tr.cN p.st.aJ
 afX:∀t∈p.st.aJ,isAgg t.op=true
 few:∀t∈p.st.aJ,t.args.length<=2
 li:p.items.length=q.items.length
 lh:p.having.length=q.eU.length
 lo:p.order.length=q.ord.length
 ln:p.st.aL.length+p.st.aJ.length<=q.aL.length+2*Tr.aQ (q.items.map (·.1))+2*Tr.aQ q.eU+2*Tr.aQ (q.ord.map (·.1))
theorem adX{p:ji}(h:dS q cols=.ok p)(h1:Tr.cN (q.items.map (·.1)))(h2:Tr.cN q.eU)(h3:Tr.cN (q.ord.map (·.1))):Rc q p:=by
 obtain⟨_,_,gc,hd,s1,s2,_,hg,hi,hh,ho,_⟩:=uJ h;obtain⟨a1,a2,a3,a4⟩:=MU hi h1 (by unfold Tr.cN;trivial);obtain⟨b1,b2,b3,b4⟩:=GV hh h2 a2;obtain⟨c1,c2,c3,c4⟩:=MV ho h3 b2;have zT:=GX hg;refine⟨a1,b1,c1,c2,Vo h,T7 h,ym hi,b3,c3,?_⟩;have e:(dy.mk [] gc).aL.length+(dy.mk [] gc).aJ.length=q.aL.length:=by rw[<- zT];rfl
 omega
theorem adY (cols:List aX)(CA:Option Addr)(cc:Nat)(row:List Val)(RA:Option Addr)(rc:Nat)(ts:List Tr)(ys:List Ex)(A:Option Addr)(c:Nat)(w:World)(cf:cols.length<=140737488355328)(kN:row.length<=140737488355328)(hro:∀v∈row,v.Ok)
  (aZ:Tr.cN ts) (hat:Tr.aO w (Old w) ts ys) (hl:ys.length<=1599289640356) (hA:RE w w.heap.size A ys) (hC:RC w w.heap.size CA cols) (hV:RV w w.heap.size RA row):
  ar 16 #[.slice A ys.length c,.slice CA cols.length cc,.slice RA row.length rc] w λ e w'=>e=.returned (.tuple #[.bool (iA cols ts row).1,af (iA cols ts row).2])/\aj w w':=by
 cases ts with
 | nil=>unfold Tr.aO at hat;subst hat;refine(Yi A c _ _ w).mono ?_;rintro e w' ⟨rfl,rfl⟩;exact⟨rfl,Below.refl _ _⟩
 | cons t ts=>unfold Tr.aO at hat;obtain⟨y,ys',rfl,h1,_⟩:=hat;unfold Tr.cN at aZ;have he:=Tr.RD cols CA cc row RA rc cf kN hro t y w aZ.1 h1 hC hV;exact Yh A (y::ys').length c Tad hl y ys' _ _ (t.eval cols row) w hA he
theorem Tx (cols:List aX)(CA:Option Addr)(cc:Nat)(ts:List Tr)(ys:List Ex)(A:Option Addr)(c:Nat)(rows:List aW)(RA:Option Addr)(rc:Nat)(w:World)(cf:cols.length<=140737488355328)(Qs:rows.length<=1000000)(kN:∀r∈rows,r.l.length<=140737488355328/\∀v∈r.l,v.Ok)
  (aZ:Tr.cN ts) (hat:Tr.aO w (Old w) ts ys) (hl:ys.length<=1599289640356) (hA:RE w w.heap.size A ys) (hC:RC w w.heap.size CA cols) (hR:RR w w.heap.size RA rows):
  ar 32 #[.slice A ys.length c,.slice CA cols.length cc,.slice RA rows.length rc] w λ e w'=>∃v,e=.returned (.tuple #[v,af (cZ cols ts (rows.map (·.l))).2])/\aI ck 38 1 w' w.heap.size v (js (iA cols ts) rows)/\aj w w':=by
 have he:(cZ cols ts (rows.map (·.l))).2=dx (rows.map λ r=>(iA cols ts r.l).2):=by unfold cZ;rw[map_map];rfl
 rw[he];refine Zc (.slice A ys.length c) (.slice CA cols.length cc) (iA cols ts) rows RA rc w Qs hR λ r hr W hW=>?_
 obtain⟨i,hi,rfl⟩:=getElem_of_mem hr;obtain⟨_,_,_,_,_,hv⟩:=(hR.below hW).at_ hi;exact adY cols CA cc rows[i].l rows[i].A rows[i].c ts ys A c W cf (kN _ hr).1 (kN _ hr).2 aZ (Tr.aO.later hat hW) hl (hA.later hW) (hC.later hW) (hv.more hW.size)
theorem T8 (cols:List aX)(ts:List Tr)(rows:List aW):(js (iA cols ts) rows).map (·.l)=(cZ cols ts (rows.map (·.l))).1:=by unfold js cZ;dsimp only;rw[filter_map];rfl
theorem MW{w:World} {base:Nat}  {cl:List aW}(h:aI ck 38 1 w base v cl)(hm:∀r∈cl,RV w w.heap.size r.A r.l):∃A c,v=.slice A cl.length c/\RR w w.heap.size A cl:=by
 obtain⟨A,c,hv,hc⟩:=ej (f:=ck) (size:=1) (λ _=>rfl) h;refine⟨A,c,hv,?_⟩;rcases hc with hc |⟨g,hA,hg,hc⟩
 ·exact .inl hc
 ·refine .inr ⟨g,0,hA,hg,λ i r hr=>⟨?_,hm r (mem_of_getElem? hr)⟩⟩;have:=hc i r 0 _ hr WC rfl;exact Ze5
variable{ts:List Tr}{A:Option Addr}{n:Nat}
theorem T9{w:World}   (h:gI w ts A n):∃ys,n=ys.length/\RE w w.heap.size A ys/\Tr.aO w (Old w) ts ys:=by obtain⟨hn,ys,h1,h2⟩:=h;refine⟨ys,by rw[hn,dX h2],?_,h2⟩;exact ZcU
theorem ajh (s:St)(a b:Val):(s.feed a b).a=s.a\/(s.feed a b).a=a:=by
 unfold St.feed St.does St.some_ St.put St.alone St.Bo St.take;repeat' split
 all_goals first
  | exact .inl rfl
  | exact .inr rfl
theorem Dx:∀(l:List (Val×Val)) (s:St),s.a.Ok->(∀x∈l,x.1.Ok)->(l.foldl (λ s x=>s.feed x.1 x.2) s).a.Ok
 | [],s,hs,_=>hs
 | x::l,s,hs,h=>by
   rw[foldl_cons];refine Dx l _ ?_ λ y hy=>h y (mem_cons_of_mem _ hy)
   rcases ajh s x.1 x.2 with e | e
   ·rw[e];exact hs
   ·rw[e];exact h x (mem_cons_self ..)
theorem U0{l:List (Val×Val)}(h:∀x∈l,x.1.Ok):(lf op l).a.Ok:=Dx l (fh op) dY h
theorem zfz.Kbg(h:p:=by exact⟨_,λ w=>Kw (hi a) (lo a) n q r _ nl c nh c2 hn e0 hs hd (Int.tmod_eq_emod_of_nonneg e0) s1 s2 w,(sk _).1,(sk _).2⟩):p:=h
theorem WH (a n:Int)(ha0:0<=a)(ha1:a < M*M)(hn:0 < n)(uX:n < 512):∃v,Oi a n v/\ -9223372036854775808<=v/\v<=9223372036854775807:=by
 have h0:=sw ha0;have h1:=aeF ha1;have l0:=su a;have l1:=RJ a;by_cases hs:(hi a / 9223372036854775808==0)=true
 ·have Np:=Int.emod_nonneg (hi a) (show n≠0 by omega);have Hu:=Int.emod_lt_of_pos (hi a) hn;obtain⟨q,r,hd⟩:=Hv (hi a % n) (lo a) n Np Hu uX l0 l1;exact⟨_,λ w=>Kv (hi a) (lo a) n q r _ hn h0 hs hd (Int.tmod_eq_emod_of_nonneg h0) w,(sk _).1,(sk _).2⟩
 ·open zfz in exact Zdl
theorem aji{s:St}(ok:s.Ok)(hc:s.count < 512)(ha:s.a.Ok):∃v e,gH s v e/\v.Ok:=by
 have h1:=ok.alw;have h2:=ok.asy;have h3:=ok.xr;unfold gH;split
 ·exact Zhf
 ·split
  ·exact Zhf
  ·split
   ·refine⟨_,_,⟨rfl,rfl⟩,?_⟩;unfold St.total;split
    ·exact dY
    ·split
     ·show -9223372036854775808<=Fg _/\Fg _<=9223372036854775807;unfold Fg;rw[IntKind.wrap_i64];omega
     ·exact dY
   ·split
    ·by_cases hz:s.count=0
     ·exact⟨aN,0,⟨.inl ⟨hz,rfl⟩,rfl⟩,dY⟩
     ·obtain⟨q,hq,q1,q2⟩:=WH s.sum s.count ok.abr ok.abt WC hc;exact⟨num q,0,⟨.inr ⟨hz,q,hq,rfl⟩,rfl⟩,q1,q2⟩
    ·exact⟨s.a,0,⟨rfl,rfl⟩,ha⟩
theorem adZ{l:List Val}(h:∀v∈l,v.Ok)(i:Nat):(l.getD i aN).Ok:=by
 rw[getD_eq_getElem?_getD]
 cases hj:l[i]? with
 | none=>exact dY
 | some v=>exact h v (mem_of_getElem? hj)
theorem GY:∀(ts:List Tr) (l:List Val),(∀v∈l,v.Ok)->∀x∈gS ts l,x.1.Ok
 | [],l,_,x,hx=>by cases hx
 | t::ts,l,h,x,hx=>by
   unfold gS at hx;rcases List.mem_cons.1 hx with rfl | hx
   ·dsimp only;split
    ·exact adZ h 0
    ·exact dY
   ·exact GY ts _ (λ v hv=>h v (mem_of_mem_drop hv)) x hx
variable{gs:List (List Val)}
theorem WI{ng:Nat} {aJ:List Tr} {l:List (List Val)}(hagg:∀t∈aJ,isAgg t.op=true)(hl:∀r∈l,∀v∈r,v.Ok)(hn:l.length<=300)(h:jP ng aJ l=.ok gs):gs.length<=l.length+1/\∀g∈gs,g.length<=ng+aJ.length/\∀v∈g,v.Ok:=by
 have hk:(if ng=0 then [[]] else iN ((fV ng aJ l).map (·.1)))=fp ng (l.map λ r=>r.take ng):=by unfold fp fV;rw[map_map];rfl
 unfold jP at h;have h:(if dx ((if ng=0 then [[]] else iN ((fV ng aJ l).map (·.1))).map λ k=>cL (dP (aJ.map Tr.op) (fV ng aJ l) k))≠0 then Except.error (dx ((if ng=0 then [[]] else iN ((fV ng aJ l).map (·.1))).map λ k=>cL (dP (aJ.map Tr.op) (fV ng aJ l) k)))else .ok ((if ng=0 then [[]] else iN ((fV ng aJ l).map (·.1))).map λ k=>k++(dP (aJ.map Tr.op) (fV ng aJ l) k).map (·.1)))=.ok gs:=h;rw[hk] at h;split at h
 ·cases h
 ·injection h with h;subst h;refine⟨?_,λ g hg=>?_⟩
  ·rw[length_map];have:=xW ng (l.map λ r=>r.take ng);rwa [length_map] at this
  ·obtain⟨k,hkm,rfl⟩:=List.mem_map.1 hg;have pR:=rO hkm;refine⟨?_,λ v hv=>?_⟩
   ·rw[length_append,length_map,jb,length_map,nj,length_map];omega
   ·rcases List.mem_append.1 hv with hv | hv
    ·unfold fp at hkm;split at hkm
     ·rw[mem_singleton] at hkm;rw[hkm] at hv;cases hv
     ·have:=((vP jD iL _).2 _).1 hkm;obtain⟨r,hr,rfl⟩:=List.mem_map.1 this;exact hl r hr v (mem_of_mem_take hv)
    ·rw[jb,map_map] at hv;obtain⟨s,hs,rfl⟩:=List.mem_map.1 hv;unfold dT at hs;obtain⟨i,hi,rfl⟩:=List.mem_map.1 hs;have hi:i <(aJ.map Tr.op).length:=List.mem_range.1 hi
     have hop:isAgg ((aJ.map Tr.op).getD i 0)=true:=by
      rw[getD_eq_getElem?_getD,getElem?_eq_getElem hi];have Gg:i < aJ.length:=by simpa using hi
      simp only[Option.getD_some,getElem_map];exact hagg _ (getElem_mem Gg)
     have oI:=hop;unfold isAgg at oI;simp only[Bool.and_eq_true,decide_eq_true_eq] at oI;have hlen:(pZ i (fV ng aJ l) k).length<=300:=by unfold pZ;rw[length_map];refine Nat.le_trans (length_filter_le _ _) ?_;unfold fV;rw[length_map];exact hn
     have r:=Am oI.1 oI.2 (pZ i (fV ng aJ l) k);have ok:=I5 oI.1 oI.2 r WC;have hcb:=Jm ((aJ.map Tr.op).getD i 0) (pZ i (fV ng aJ l) k);have hct:=r.count;refine abG (aji ok WC (U0 λ x hx=>?_));unfold pZ at hx;obtain⟨p,hp,rfl⟩:=List.mem_map.1 hx;have hp:=(List.mem_filter.1 hp).1;unfold fV at hp;obtain⟨q,hq,rfl⟩:=List.mem_map.1 hp;dsimp only;rw[getD_eq_getElem?_getD]
     cases hj:(gS aJ (q.drop ng))[i]? with
     | none=>exact dY
     | some y=>exact GY aJ (q.drop ng) (λ v hv=>hl q hq v (mem_of_mem_drop hv)) y (mem_of_getElem? hj)
theorem aeb{aJ:List Tr}   (hagg:∀t∈aJ,isAgg t.op=true)(Jn:Tr.cN (aL++aJ.flatMap Tr.args))(hr:∀r∈rows,∀v∈r.l,v.Ok)(hn:rows.length<=300)(h:wW aL aJ cols (rows.map (·.l))=.ok gs):gs.length<=rows.length+1/\∀g∈gs,g.length<=aL.length+aJ.length/\∀v∈g,v.Ok:=by
 rw[Dv] at h;split at h
 ·cases h
 ·have hl:=uL cols (aL++aJ.flatMap Tr.args) rows;obtain⟨h1,h2⟩:=WI hagg (λ r hrm=>by
   obtain⟨x,hx,he⟩:=VG hrm
   exact CX (hr x hx) Jn he) WC h
  exact⟨by omega,h2⟩
theorem AG{w:World} {base:Nat}  {l:List aX}(h:aI aS 113 2 w base v l):∃A c,v=.slice A l.length c/\RC w w.heap.size A l:=by
 obtain⟨A,c,hv,hc⟩:=ej (f:=aS) (size:=2) (λ _=>rfl) h;refine⟨A,c,hv,?_⟩;rcases hc with hc |⟨g,hA,hg,hc⟩
 ·exact .inl hc
 ·refine .inr ⟨g,0,hA,hg,λ i x hx=>?_⟩;have h0:=hc i x 0 _ hx WC rfl;have h1:=hc i x 1 _ hx WC rfl;unfold pS;rw[Nat.zero_add];exact⟨by simpa using h0,h1⟩
structure PlE (w:World) (gp:Nat) (q:Qy) (L:QL) (p:ji) (cols:List aX) (CA:Option Addr) (cc:Nat) (yg ya yi yh yo:List Ex) (AA:Option Addr) (ac:Nat) (VA:Option Addr) (vc:Nat) (HA:Option Addr) (hc:Nat) (IA:Option Addr) (ic:Nat) (JA:Option Addr) (jc:Nat) (DA:Option Addr) (dc:Nat):Prop where
 blk:∃cs,aB w gp 81 cs
 gr:CY w gp q.aL p.st.aJ cols yg ya L.g.A L.g.c CA cc AA ac
 ops:ya.map Ex.op=p.st.aJ.map Tr.op
 c10:w.cell? ⟨gp,10,none⟩=some (.slice VA p.st.aL.length vc)
 rv:RC w w.heap.size VA p.st.aL
 c11:w.cell? ⟨gp,11,none⟩=some (.bool q.aK)
 c12:w.cell? ⟨gp,12,none⟩=some (.slice HA p.head.length hc)
 c14:w.cell? ⟨gp,14,none⟩=some (.slice JA yh.length jc)
 rj:RE w w.heap.size JA yh
 tj:Tr.aO w (Old w) p.having yh
 c13:w.cell? ⟨gp,13,none⟩=some (.slice IA yi.length ic)
 ri:RE w w.heap.size IA yi
 ti:Tr.aO w (Old w) p.items yi
 c15:w.cell? ⟨gp,15,none⟩=some (.slice DA yo.length dc)
 ro:RE w w.heap.size DA yo
 eD:Tr.aO w (Old w) p.order yo
 c6:w.cell? ⟨gp,6,none⟩=some (.slice L.o.A L.o.n L.o.c)
section
variable {w w':World} {gp:Nat} {q:Qy} {L:QL} {p:ji} {cols:List aX} {CA:Option Addr} {cc:Nat} {yg ya yi yh yo:List Ex} {AA:Option Addr} {ac:Nat} {VA:Option Addr} {vc:Nat} {HA:Option Addr} {hc:Nat} {IA:Option Addr} {ic:Nat} {JA:Option Addr} {jc:Nat} {DA:Option Addr} {dc:Nat}
theorem PlE.later (h:PlE w gp q L p cols CA cc yg ya yi yh yo AA ac VA vc HA hc IA ic JA jc DA dc)(hb:aj w w'):PlE w' gp q L p cols CA cc yg ya yi yh yo AA ac VA vc HA hc IA ic JA jc DA dc:=by
 have hl:=h.gr.lt;have hc:=λ i=>hb.cell (p:=⟨gp,i,none⟩) hl
 obtain⟨cs,hcs⟩:=h.blk;exact⟨⟨cs,hcs.later hb⟩,h.gr.later hb,h.ops,(hc 10).trans h.c10,h.rv.later hb,(hc 11).trans h.c11,(hc 12).trans h.c12,(hc 14).trans h.c14,h.rj.later hb,Tr.aO.later h.tj hb,(hc 13).trans h.c13,h.ri.later hb,Tr.aO.later h.ti hb,(hc 15).trans h.c15,h.ro.later hb,Tr.aO.later h.eD hb,(hc 6).trans h.c6⟩
theorem PlE.run (h:PlE w gp q L p cols CA cc yg ya yi yh yo AA ac VA vc HA hc IA ic JA jc DA dc) {over:List aX} {OA:Option Addr}(ho:RC w w.heap.size OA over):MP w gp p.items p.order over yi yo IA ic DA dc OA:=
 ⟨h.gr.lt,h.c13,h.c15,h.ri,h.ti,h.ro,h.eD,ho⟩
end
variable{S:Nat->Prop}
theorem Ty{w:World} :∀ {ts:List Tr} {ys:List Ex},Tr.aO w S ts ys->ys.map Ex.op=ts.map Tr.op
 | [],ys,h=>by unfold Tr.aO at h;rw[h];rfl
 | t::ts,ys,h=>by unfold Tr.aO at h;obtain⟨y,ys',rfl,h1,h2⟩:=h;obtain⟨op,v,name,width,args⟩:=t;unfold Tr.at_ at h1;rw[map_cons,map_cons,Ty h2,h1.1];rfl
variable{u:Value}{ya yi yh yo:List Ex}
theorem U1{w:World}  {r:Rest}   {p:ji}(hP:afV (Af q L CA cc cols) w0 w gp r u v ya yi yh yo p)(hq:Dt (Af q L CA cc cols) w0 q L cols):
  ∃yg AA ac VA vc HA hc IA ic JA jc DA dc,PlE w gp q L p cols CA cc yg ya yi yh yo AA ac VA vc HA hc IA ic JA jc DA dc/\aI aS 113 2 w w0.heap.size (.slice HA p.head.length hc) p.head:=by obtain⟨AA,ac,hu,hra⟩:=rP hP.o0;obtain⟨VA,vc,hv,vd⟩:=AG hP.o1;obtain⟨HA,hc,hh,hrh⟩:=AG hP.o2;obtain⟨IA,ic,hi,hri⟩:=rP hP.o3;obtain⟨JA,jc,hj,hrj⟩:=rP hP.o4;obtain⟨DA,dc,hd,mC⟩:=rP hP.o5;obtain⟨yg,hyn,hyr,Wl⟩:=T9 hq.ig;have k1:=hP.blk;unfold PC.cells at k1;have c4:=k1.cell 4;have c6:=k1.cell 6;have c8:=k1.cell 8;have c9:=k1.cell 9;have c10:=k1.cell 10;have c11:=k1.cell 11;have c12:=k1.cell 12;have XJ:=k1.cell 13;have c14:=k1.cell 14;have c15:=k1.cell 15;simp only[Uaa] at c4 c6 c8 c9 c10 c11 c12 XJ c14 c15;have c4:w.cell? ⟨gp,4,none⟩=some (.slice L.g.A L.g.n L.g.c):=c4;rw[hyn] at c4;rw[hu] at c9;rw[hv] at c10;rw[hh] at c12;rw[hi] at XJ;rw[hj] at c14;rw[hd] at c15;refine⟨yg,AA,ac,VA,vc,HA,hc,IA,ic,JA,jc,DA,dc,⟨⟨_,hP.blk⟩,⟨k1.lt,c4,c8,c9,hyr.later hP.base,Tr.aO.later Wl hP.base,hra,Tr.aO.later hP.aJ hP.base,hq.ok.cols.later hP.base⟩,Ty hP.aJ,c10,vd,c11,c12,c14,hrj,hP.t4,XJ,hri,hP.t3,c15,mC,hP.t5,c6⟩,hh▸hP.o2⟩
noncomputable def lj (q:Qy) (p:ji) (cols:List aX) (e0:Int) (rows:List (List Val)):Except Int (List (List Val)):=
 if e0≠0 then .error e0 else if p.aK=false then .ok rows else match wW q.aL p.st.aJ cols rows with
 | .error e=> .error e
 | .ok gs=>if (cZ p.st.aL p.having gs).2≠0 then .error (cZ p.st.aL p.having gs).2 else .ok (cZ p.st.aL p.having gs).1
theorem U2 (q:Qy)(p:ji)(cols:List aX)(rows:List (List Val)):qX q p cols rows=lj q p cols (cZ cols q.cD rows).2 (cZ cols q.cD rows).1:=by
 unfold qX lj wW;split
 ·rfl
 ·split
  ·rfl
  ·cases Ee ((cZ cols q.cD rows).1.map λ r=>bB cols r (q.aL++p.st.aJ.flatMap Tr.args))<;> rfl
theorem zdZ.KaK(h:p:=by
 clear hh hO hE HX;simp only[ey,fy,Tryz.f11,Option.getD_some];refine wp_seq_k λ K hK=>?_
 have HK:=aa hK;clear hK;by_cases h:er=0
 ·have t1:(er != 0)=false:=by simp[h]
  have H:=aa h;clear h;go_wp2_with fail;exact HK.ae _ _ (aiG.ae H.ae _ rfl rfl rfl rfl rfl rfl)
 ·have t1:(er != 0)=true:=by simp[h]
  have H:=aa h;clear h;go_wp2_with fail;have hs:=pO zW.ae;exact HE.ae H.ae _ _ rfl rfl rfl (((zW.ae.aT 0 _).aT 1 _).aT 2 _) hs):p:=h
theorem zhc.KbS(h:p:=by
 have hh:=λ h0 (T':Array Value) a0 a1 a2 a3 a4 a5=>hO h0 T' a0 a1 a2 a3 a4 a5
 simp only[ey,fy,Tryz.f11,Option.getD_some] at hh;have aiG:=aa hh;have HE:=aa hE;have zW:=aa HX;open zdZ in exact ZbM):p:=h
theorem U3 (g3 g6 gp:Nat)(er:Int)(lv ov:Value)(T:Array Value)(hT:T.size=183)(h3:T.getD 3 undef=aw g3)(h6:T.getD 6 undef=aw g6)(h8:T.getD 8 undef=aw gp)(h9:T.getD 9 undef=af er)(h10:T.getD 10 undef=lv)(h11:T.getD 11 undef=ov)(d:List Deferred)(w:World)(Q:Exit->Act->World->Prop)
  (HX:aB w g6 33 #[az,az,af 0])
  (hE:er≠0->∀a W,a.defers=d->a.tmps.getD 6 undef=aw g6->a.tmps.getD 7 undef=af er->aB W g6 33 #[az,az,af 0]->aj w W->Q .ret a W)
  (hO:er=0->∀T':Array Value,T'.size=183->T'.getD 3 undef=aw g3->T'.getD 6 undef=aw g6->T'.getD 8 undef=aw gp->T'.getD 10 undef=lv->T'.getD 11 undef=ov->(fy ey 8).wp Tryz.prog Q { tmps:=T',defers:=d } w):
  (fy ey 7).wp Tryz.prog Q { tmps:=T,defers:=d } w:=by
 open zhc in exact ZeV
def wX (w:World)(r:aW):Prop:=RV w w.heap.size r.A r.l/\r.l.length<=1000/\∀v∈r.l,v.Ok
theorem wX.later{w:World} {r:aW}(h:wX w r)(hb:aj w w'):wX w' r:=⟨h.1.later hb,h.2⟩
theorem zcV.Kax(h:p:=by
 have jI:=aa Gp;have c11:=hF.c11;clear ajj hE hO hF ih q1 q2 q3 q4 q5 Av Tp B3 hlv hz Nk Gp;simp only[ey,fy,Tryz.f11,Option.getD_some];refine wp_seq_k λ K hK=>?_
 have HK:=aa hK;clear hK;by_cases h:e0=0
 ·subst h;obtain⟨gd,hgd⟩:∃gd,gd=q.aK:=⟨_,rfl⟩;rw[<- hgd] at c11;have Nz:=aa hgd;clear hgd
  cases gd with
  | false=>have I1:=aa (show lj q p cols 0 (rows.map (·.l))=.ok (rows.map (·.l)) by unfold lj;rw[if_neg Tab,if_pos (Q1.ae.trans Nz.ae.symm)]);have HOV:=aa (show iO p cols=cols by unfold iO;rw[if_neg TaU]);go_wp2_with fail;refine HK.ae _ _ (HCK.ae 0 _ _ _ rfl rfl rfl rfl rfl rfl rfl w Q Ai.ae (λ KK=>absurd rfl KK) λ _ T' a0 a1 a2 a3 a4 a5=>?_);have ho:=HOL.ae _ I1.ae T' w rows EA ec CA cc a0 a1 a2 a3 a4 (by rw[HOV.ae];exact a5) (Below.refl _ _) jI.ae rfl GI.ae (by have:=F7.ae;omega) (by rw[HOV.ae];exact HF.ae.gr.rc);exact ho
  | true=>
    have c10:=HF.ae.c10;go_wp2_with fail;clear c10 c11
    have afZ:Tr.cN (q.aL++p.st.aJ.flatMap Tr.args):=by
     rw[dL];intro t ht;rcases List.mem_append.1 ht with ht | ht
     ·exact dL.1 HFN.ae t ht
     ·obtain⟨a,ha,hta⟩:=List.mem_flatMap.1 ht;have:=dL.1 IH.ae.aJ a ha;obtain⟨op,v,name,width,args⟩:=a;unfold Tr.ok at this;exact dL.1 this.2.2.2.2.2 t hta
    have aqf:=aa afZ;clear afZ;refine(Rb gp q.aL p.st.aJ cols yg ya L.g.A L.g.c CA cc AA ac rows EA ec w HF.ae.gr HF.ae.ops IH.ae.afX IH.ae.few aqf.ae Q3.ae (by have:=Q4.ae;omega) (by have:=oz.ae;omega) jI.ae F7.ae (λ r hr=>⟨by have:=(GI.ae r hr).2.1;omega,(GI.ae r hr).2.2⟩)).mono ?_;rintro e w2 ⟨b2,hm⟩;have fE:=aa b2;clear b2;have HGI:=aa (λ gs=>aeb (cols:=cols) (gs:=gs) IH.ae.afX aqf.ae (λ r hr=>(GI.ae r hr).2.2) F7.ae)
    cases hgr:wW q.aL p.st.aJ cols (rows.map (·.l))with
    | error er=>
      rw[hgr] at hm;obtain⟨hne,v,rfl⟩:=hm;have t1:(er==0)=false:=by simp[hne]
      have I1:=aa (show lj q p cols 0 (rows.map (·.l))=.error er by unfold lj;rw[if_neg Tab,if_neg TaU,hgr]);have nJ:=aa hne;clear hgr hne;go_wp2_with fail;have Kx:=HE.ae er I1.ae nJ.ae;refine HK.ae _ _ (HCK.ae er _ _ _ rfl rfl rfl rfl rfl rfl rfl w2 Q (Ai.ae.later fE.ae) (λ _ a W e1 e2 e3 k6 bW=>Kx a W e1 e2 e3 k6 (Below.trans fE.ae (bW.mono fE.ae.size))) λ KK=>absurd KK nJ.ae)
    | ok gs=>
      rw[hgr] at hm;obtain⟨v,cl,rfl,ho,hmi,Ej⟩:=hm;have hgi:=HGI.ae gs hgr;have I1:=aa (show lj q p cols 0 (rows.map (·.l))=if (cZ p.st.aL p.having gs).2≠0 then .error (cZ p.st.aL p.having gs).2 else .ok (cZ p.st.aL p.having gs).1 by unfold lj;rw[if_neg Tab,if_neg TaU,hgr]);obtain⟨A2,c2,hv2,hr2⟩:=SU ho hmi;subst hv2;have WJ:=aa (HF.ae.later fE.ae);have c14:=WJ.ae.c14;have hcn:cl.length<=301:=by have h1:=congrArg List.length Ej;rw[length_map] at h1;have h2:=hgi.1;have h3:=F7.ae;omega
      have aeg:∀r∈cl,wX w2 r:=λ r hr=>by
       have hx:r.l∈gs:=by rw[<- Ej];exact mem_map_of_mem hr
       obtain⟨x1,x2⟩:=hgi.2 _ hx;obtain⟨A3,c3,e3,h3⟩:=Hl (hmi r hr);unfold aW.v at e3;injection e3 with e3;refine⟨by rw[e3];exact h3,by have:=Q4.ae;omega,x2⟩
      have HRI:=aa aeg;have HCN:=aa hcn;have Xr:=aa hr2;have avI:=aa Ej;have HMI:=aa hmi;clear hgr hgi hcn aeg hr2 Ej hmi ho HGI;go_wp2_with fail;clear c14;have hyl:yh.length=p.having.length:=(dX WJ.ae.tj).symm;refine(Tx p.st.aL VA vc p.having yh JA jc cl A2 c2 w2 (by have:=Q5.ae;omega) (by have:=HCN.ae;omega) (λ r hr=>⟨by have:=(HRI.ae r hr).2.1;omega,(HRI.ae r hr).2.2⟩) IH.ae.having WJ.ae.tj (by rw[hyl];have:=E1.ae;omega) WJ.ae.rj WJ.ae.rv Xr.ae).mono ?_;rintro e w3 ⟨v3,rfl,ho3,b3⟩;have Xi:=aa (T8 p.st.aL p.having cl);have Lk:iO p cols=p.st.aL:=by unfold iO;rw[if_pos (by rw[Q1.ae,<- Nz.ae])]
      have HOV:=aa Lk;have TQ:=aa ho3;have oB:=aa b3;rw[avI.ae] at Xi ⊢;have U4:∀r∈js (iA p.st.aL p.having) cl,wX w3 r:=λ r hr=>(HRI.ae r (List.mem_filter.1 hr).1).later oB.ae
      have zA:(js (iA p.st.aL p.having) cl).length<=301:=Nat.le_trans (length_filter_le _ _) HCN.ae;obtain⟨A4,c4,hv4,hr4⟩:=MW TQ.ae λ r hr=>(U4 r hr).1
      subst hv4;have HR4:=aa hr4;have avJ:=aa U4;have HKN:=aa zA;obtain⟨e3,he3⟩:∃e3,e3=(cZ p.st.aL p.having gs).2:=⟨_,rfl⟩;rw[<- he3] at I1 ⊢;have HE3:=aa he3;clear ho3 b3 Lk U4 zA hr4 he3 hyl;by_cases Kx:e3=0
      ·have HZ:=aa Kx;have ajl:=aa (show lj q p cols 0 (rows.map (·.l))=.ok (cZ p.st.aL p.having gs).1 by rw[I1.ae,if_neg (by simp[Kx])]);clear Kx;go_wp2_with fail;refine HK.ae _ _ (HCK.ae e3 _ _ _ rfl rfl rfl rfl rfl rfl rfl w3 Q ((Ai.ae.later fE.ae).later oB.ae) (λ KK=>absurd HZ.ae KK) λ _ T' a0 a1 a2 a3 a4 a5=>?_);have kF:=Below.trans fE.ae (oB.ae.mono fE.ae.size);have ho:=HOL.ae _ ajl.ae T' w3 (js (iA p.st.aL p.having) cl) A4 c4 VA vc a0 a1 a2 a3 a4 (by rw[HOV.ae];exact a5) kF HR4.ae Xi.ae avJ.ae HKN.ae (by rw[HOV.ae];exact(WJ.ae.later oB.ae).rv);exact ho
      ·have HZ:=aa Kx;have ajl:=aa (show lj q p cols 0 (rows.map (·.l))=.error e3 by rw[I1.ae,if_pos Kx]);clear Kx;go_wp2_with fail;have hx:=HE.ae e3 ajl.ae HZ.ae;refine HK.ae _ _ (HCK.ae e3 _ _ _ rfl rfl rfl rfl rfl rfl rfl w3 Q ((Ai.ae.later fE.ae).later oB.ae) (λ _ a W e1 e2 e3 k6 bW=>hx a W e1 e2 e3 k6 (Below.trans fE.ae ((Below.trans oB.ae (bW.mono oB.ae.size)).mono fE.ae.size))) λ KK=>absurd KK HZ.ae)
 ·have I1:=aa (show lj q p cols e0 (rows.map (·.l))=.error e0 by unfold lj;rw[if_pos h]);have t1:(e0==0)=false:=by simp[h]
  have H:=aa h;clear h;go_wp2_with fail;have Kx:=HE.ae e0 I1.ae H.ae;exact HK.ae _ _ (HCK.ae e0 _ _ _ rfl rfl rfl rfl rfl rfl rfl w Q Ai.ae (λ _ a W e1 e2 e3 k6 bW=>Kx a W e1 e2 e3 k6 bW) λ KK=>absurd KK H.ae)):p:=h
theorem zhd.KbS(h:p:=by
 have ajj:=λ(er:Int) (lv ov:Value) T hT a0 a1 a2 a3 a4 a5 w Q=>U3 g3 g6 gp er lv ov T hT a0 a1 a2 a3 a4 a5 d w Q
 have HO:=aa hO;simp only[ey,fy,Tryz.f11,Option.getD_some] at ajj hO;have HCK:=aa ajj;have HOL:=aa hO;have HE:=aa hE;open zcV in exact Zbd):p:=h
theorem aec (w0:World)(g3 g6 gp:Nat)(q:Qy)(L:QL)(p:ji)(cols:List aX)(CA:Option Addr)(cc:Nat)(yg ya yi yh yo:List Ex)(AA:Option Addr)(ac:Nat)(VA:Option Addr)(vc:Nat)(HA:Option Addr)(hc:Nat)(IA:Option Addr)(ic:Nat)(JA:Option Addr)(jc:Nat)(DA:Option Addr)(dc:Nat)(e0:Int)(rows:List aW)(base:Nat)(lv:Value)(T:Array Value)(hT:T.size=183)(h3:T.getD 3 undef=aw g3)(h6:T.getD 6 undef=aw g6)(h8:T.getD 8 undef=aw gp)(h9:T.getD 9 undef=af e0)(h10:T.getD 10 undef=lv)(h11:T.getD 11 undef=.slice CA cols.length cc)(d:List Deferred)(w:World)(Q:Exit->Act->World->Prop)
  (hF:PlE w gp q L p cols CA cc yg ya yi yh yo AA ac VA vc HA hc IA ic JA jc DA dc) (ih:Rc q p) (q1:p.aK=q.aK) (q2:Tr.cN q.aL) (q3:q.aL.length<=1000) (q4:q.aL.length+p.st.aJ.length<=1000) (q5:p.st.aL.length<=100000) (Av:cols.length<=100000) (Tp:p.having.length<=100000)
  (B3:aB w g6 33 #[az,az,af 0]) (hlv:aI ck 38 1 w base lv rows) (hz:∀r∈rows,wX w r) (Nk:rows.length<=300)
  (hE:∀er,lj q p cols e0 (rows.map (·.l))=.error er->er≠0->∀a W,a.defers=d->a.tmps.getD 6 undef=aw g6->a.tmps.getD 7 undef=af er->aB W g6 33 #[az,az,af 0]->aj w W->Q .ret a W)
  (hO:∀left,lj q p cols e0 (rows.map (·.l))=.ok left->∀(T':Array Value) W (rows':List aW) EA ec OA oc,T'.size=183->T'.getD 3 undef=aw g3->T'.getD 6 undef=aw g6->T'.getD 8 undef=aw gp->T'.getD 10 undef=.slice EA rows'.length ec->T'.getD 11 undef=.slice OA (iO p cols).length oc->aj w W->RR W W.heap.size EA rows'->rows'.map (·.l)=left->(∀r∈rows',wX W r)->rows'.length<=301->RC W W.heap.size OA (iO p cols)->(fy ey 8).wp Tryz.prog Q { tmps:=T',defers:=d } W):
  (fy ey 6).wp Tryz.prog Q { tmps:=T,defers:=d } w:=by
 obtain⟨EA,ec,aee,Gp⟩:=MW hlv λ r hr=>(hz r hr).1
 subst aee;open zhd in exact ZeV
theorem U5 (p:ji)(cols:List aX)(rows:List aW):uh p cols (rows.map (·.l))=if dZ (iO p cols) (p.items++p.order) rows≠0 then .error (dZ (iO p cols) (p.items++p.order) rows)else .ok (wR p.items p.order (iO p cols) rows):=by
 have e1:((rows.map (·.l)).map (Mu p (iO p cols))).map exE=rows.map λ r=>np (bB (iO p cols) r.l (p.items++p.order)):=by
  rw[map_map,map_map];refine map_congr_left λ r _=>?_
  show exE (Mu p (iO p cols) r.l)=_;unfold Mu;cases bB (iO p cols) r.l (p.items++p.order)<;> rfl
 have e2:((rows.map (·.l)).map (Mu p (iO p cols))).filterMap ur=wR p.items p.order (iO p cols) rows:=by unfold wR;rw[map_map,filterMap_map];congr 1
 rw[VF,Mt,e1,e2];rfl
noncomputable def wY (q:Qy) (p:ji) (cols:List aX) (e0:Int) (rows:List (List Val)):Except Int (List (List Val)):=match lj q p cols e0 rows with
 | .error e=> .error e
 | .ok left=>match uh p cols left with
   | .error e=> .error e
   | .ok ls=> .ok ((match q.lim with | []=>jr (q.ord.map λ o:Tr×Bool=>o.2) ls | n::_=>(jr (q.ord.map λ o:Tr×Bool=>o.2) ls).take n.toNat).map fk.row)
theorem aeh (q:Qy)(cols:List aX)(rows:List (List Val)):jF q cols rows=match dS q cols with
 | .error e=> .error e
 | .ok p=>if rows.any (λ r=> !jq cols r)=true then .error 40 else match wY q p cols (cZ cols q.cD rows).2 (cZ cols q.cD rows).1 with
   | .error e=> .error e
   | .ok la=> .ok (p.head,la):=by
 unfold jF wY
 cases dS q cols with
 | error e=>rfl
 | ok p=>
   dsimp only;split
   ·rfl
   ·rw[U2]
    cases lj q p cols (cZ cols q.cD rows).2 (cZ cols q.cD rows).1 with
    | error e=>rfl
    | ok left=>dsimp only;cases uh p cols left <;> rfl
theorem U6 (w0:World)(g3 g6 gp:Nat)(q:Qy)(L:QL)(p:ji)(cols:List aX)(CA:Option Addr)(cc:Nat)(yg ya yi yh yo:List Ex)(AA:Option Addr)(ac:Nat)(VA:Option Addr)(vc:Nat)(HA:Option Addr)(hc:Nat)(IA:Option Addr)(ic:Nat)(JA:Option Addr)(jc:Nat)(DA:Option Addr)(dc:Nat)(e0:Int)(rows:List aW)(base:Nat)(lv:Value)(T:Array Value)(hT:T.size=183)(h3:T.getD 3 undef=aw g3)(h6:T.getD 6 undef=aw g6)(h8:T.getD 8 undef=aw gp)(h9:T.getD 9 undef=af e0)(h10:T.getD 10 undef=lv)(h11:T.getD 11 undef=.slice CA cols.length cc)(d:List Deferred)(w:World)(Q:Exit->Act->World->Prop)
  (hPE:PlE w gp q L p cols CA cc yg ya yi yh yo AA ac VA vc HA hc IA ic JA jc DA dc) (Aj:Rc q p) (Sv:p.aK=q.aK) (hgo:Tr.cN q.aL) (hng:q.aL.length<=1000) (hsm:q.aL.length+p.st.aJ.length<=1000) (zT:p.st.aL.length<=100000) (cf:cols.length<=100000) (hyh:p.having.length<=100000)
  (Nk:q.items.length<=1000) (fG:q.ord.length<=1000)
  (uu:eO w0 (q.ord.map λ x=>(x.1,Value.bool x.2)) L.o.A L.o.n) (pN:L.l.n=q.lim.length/\Up w0 w0.heap.size L.l.A q.lim) (hlm:∀n∈q.lim,0<=n/\n<=9223372036854775807) (ft:q.lim.length<=1) (hb0:aj w0 w) (hg3:aB w g3 27 (eJ q L))
  (rL:aB w g6 33 #[az,az,af 0]) (avL:w0.heap.size<=g6) (hlv:aI ck 38 1 w base lv rows) (rS:∀r∈rows,wX w r) (Qs:rows.length<=300)
  (hE:∀er,wY q p cols e0 (rows.map (·.l))=.error er->er≠0->∀a W,a.defers=d->a.tmps.getD 6 undef=aw g6->a.tmps.getD 7 undef=af er->aB W g6 33 #[az,az,af 0]->aj w0 W->Q .ret a W)
  (hO:∀la,wY q p cols e0 (rows.map (·.l))=.ok la->∀a W ov (out:List aW),a.defers=d->a.tmps.getD 6 undef=aw g6->a.tmps.getD 7 undef=af 0->aB W g6 33 #[.slice HA p.head.length hc,ov,af out.length]->aI ck 38 1 W w0.heap.size ov out->(∀r∈out,bM W r.A r.l)->out.map (·.l)=la->aj w0 W->w.grownBy W (some g6)->Q .ret a W):
  (fy ey 6).wp Tryz.prog Q { tmps:=T,defers:=d } w:=by
 have HG:∀ {W:World},w.grownBy W (some g6)->aj w0 W:=λ h=>dQ hb0 h avL
 refine aec w0 g3 g6 gp q L p cols CA cc yg ya yi yh yo AA ac VA vc HA hc IA ic JA jc DA dc e0 rows base lv T hT h3 h6 h8 h9 h10 h11 d w Q hPE Aj Sv hgo hng hsm zT cf hyh rL hlv rS Qs ?_ ?_
 ·intro er hl hne a W e1 e2 e3 k6 bW;exact hE er (by unfold wY;rw[hl]) hne a W e1 e2 e3 k6 (Below.trans hb0 (bW.mono hb0.size))
 ·intro left hl T1 W1 aga EA ec OA oc s1 s2 s3 s4 s5 s6 b1 Zu hle hri avM hrc;have aqh:=hPE.later b1;have U7:aj w0 W1:=Below.trans hb0 (b1.mono hb0.size);have Dy:=U5 p cols aga;rw[hle] at Dy;refine Wi w0 gp g3 g6 p.items p.order (iO p cols) yi yo IA ic DA dc OA oc aga EA ec T1 s1 s2 s3 s4 s5 s6 d W1 Q (aqh.run hrc) (dL.2 λ t ht=>by
   rcases List.mem_append.1 ht with ht | ht
   ·exact dL.1 Aj.items t ht
   ·exact dL.1 Aj.order t ht) (by rw[Aj.li];omega) (by rw[Aj.lo];omega) ?_ (λ _=>by rw[Aj.li];omega) Zu avM (λ r hr=>(hri r hr).2) (rL.later b1) ?_ ?_
  ·unfold iO;split
   ·omega
   ·omega
  ·intro hne a W e1 e2 e3 k6 gW;rw[if_pos hne] at Dy;refine hE _ (by unfold wY;rw[hl];dsimp only;rw[Dy]) hne a W e1 e2 e3 k6 (HG (aY (aR b1) gW))
  ·intro hz T2 W2 LA lc dJ s1 s2 s3 s4 s5 b2 aee avN hls Ht;rw[if_neg (by simp[hz])] at Dy;have aei:=aqh.later b2;have ajm:aj w0 W2:=Below.trans U7 (b2.mono U7.size);have k3:=((hg3.later b1).later b2);have c7:=k3.cell 7;unfold eJ at c7;simp only[Uaa] at c7;rw[pN.1] at c7;refine O9 gp g3 g6 q.ord L.o.A L.o.n L.o.c q.lim L.l.A L.l.c dJ W1.heap.size LA lc HA p.head.length hc T2 s1 s2 s3 s4 s5 d W2 Q WC WC aei.gr.lt aei.c12 aei.c6 aei.blk (uu.later ajm) (λ b hb w' hg=>uu.later (dQ ajm hg (Nat.le_trans U7.size hb))) c7 ⟨_,k3⟩ ?_ hlm ft ((rL.later b1).later b2) b2.size aee (λ x hx=>by obtain⟨q1,q2,q3,q4⟩:=avN x hx;exact⟨q1,q2,q3,by rw[q4,Aj.lo]⟩) ?_
   ·rcases pN.2 with h |⟨b,off,x1,x2,x3⟩
    ·exact .inl h
    ·exact .inr ⟨b,off,x1,Nat.lt_of_lt_of_le x2 U7.size,λ i x hx=>(ajm.cell (p:=⟨b,off+i,none⟩) x2).trans (x3 i x hx)⟩
   ·rintro a W ov out e1 e2 e3 k6 oW hk yu ⟨wm,gm,gW⟩;have g1:W1.grownBy W (some g6):=aY (pL (aR b2) gm (Nat.le_refl _) λ q hq=>(aee.lt hq).2.1) gW;have g2:w.grownBy W (some g6):=aY (aR b1) g1;refine hO _ ?_ a W ov out e1 e2 e3 k6 (oW.down U7.size) hk yu (HG g2) g2;unfold wY;rw[hl];dsimp only;rw[Dy,<- hls];cases q.lim <;> rfl
def bu (w0:World)(g n a b:Nat)(D:Nat->aW)(e:Ending)(w':World):Prop:=e=.returned (.tuple #[])/\∃E,SS w0 g n w' E/\Sw a b D E/\cE E a b
def QH (E:Nat->aW)(s n:Nat):Prop:=∀a,s ∣ a->cE E a (min (a+s) n)
def Low (E:Nat->aW)(s a:Nat):Prop:=∀x,s ∣ x->x+s<=a->cE E x (x+s)
def O6 (E:Nat->aW)(s a n:Nat):Prop:=∀x,s ∣ x->a<=x->cE E x (min (x+s) n)
def wQ (w:World)(e:Ending)(w':World):Prop:=e=.returned (.tuple #[])/\w'=w
variable{rs:List aW}
theorem RR.later{w:World}  (h:RR w w.heap.size A rs)(hb:aj w w'):RR w' w'.heap.size A rs:=by
 rcases h with h |⟨b,off,h1,h2,h3⟩
 ·exact .inl h
 ·exact .inr ⟨b,off,h1,Nat.lt_of_lt_of_le h2 hb.size,λ i r hr=>⟨(hb.cell (p:=⟨b,off+i,none⟩) h2).trans (h3 i r hr).1,((h3 i r hr).2.below hb).more hb.size⟩⟩
theorem Jz (a b:Val)(w:World):ar 144 #[.agg (aD a),.agg (aD b)] w λ e w'=>e=.returned (af (bO a b))/\aj w w':=by
 by_cases hk:a.k=b.k
 ·have t1:(a.k != b.k)=false:=by simpa using hk
  by_cases hn:a.n=b.n
  ·have t2:(a.n != b.n)=false:=by simpa using hn
   have hv:bO a b=lr a.s b.s:=by unfold bO or3 lR;rw[if_neg (show¬a.k < b.k by omega),if_neg (show¬b.k < a.k by omega),if_pos rfl,if_neg (show¬a.n < b.n by omega),if_neg (show¬b.n < a.n by omega),if_pos rfl]
   have HV:=aa hv;clear hv hk hn;cases he:(a.s.toList==b.s.toList)
   ·cases hl:Op.bytesLess a.s.toList b.s.toList
    ·have HQ:=aa (show bO a b=1 by rw[HV.ae];unfold lr;rw[if_neg (by rw[hl];simp),if_neg (by rw[he];simp)]);exact Zbs
    ·have HQ:=aa (show bO a b= -1 by rw[HV.ae];unfold lr;rw[if_pos hl]);exact Zbs
   ·have hl:Op.bytesLess a.s.toList b.s.toList=false:=by
     have:a.s.toList=b.s.toList:=by simpa using he
     rw[this];exact jX _
    have HQ:=aa (show bO a b=0 by rw[HV.ae];unfold lr;rw[if_neg (by rw[hl];simp),if_pos he]);exact Zbs
  ·have t2:(a.n != b.n)=true:=by simpa using hn
   by_cases hl:a.n < b.n
   ·have t3:=decide_eq_true hl;have HQ:=aa (show bO a b= -1 by unfold bO or3 lR;rw[if_neg (show¬a.k < b.k by omega),if_neg (show¬b.k < a.k by omega),if_pos rfl,if_pos hl,if_neg Tab]);clear hk hn;exact Zbs
   ·have t3:=decide_eq_false hl;have HQ:=aa (show bO a b=1 by unfold bO or3 lR;rw[if_neg (show¬a.k < b.k by omega),if_neg (show¬b.k < a.k by omega),if_pos rfl,if_neg hl,if_pos (show b.n < a.n by omega),if_neg Tab]);clear hk hn;exact Zbs
 ·have t1:(a.k != b.k)=true:=by simpa using hk
  by_cases hl:a.k < b.k
  ·have t3:=decide_eq_true hl;have HQ:=aa (show bO a b= -1 by unfold bO or3 lR;rw[if_pos hl,if_neg Tab]);clear hk;exact Zbs
  ·have t3:=decide_eq_false hl;have HQ:=aa (show bO a b=1 by unfold bO or3 lR;rw[if_neg hl,if_pos (show b.k < a.k by omega),if_neg Tab]);clear hk;exact Zbs
theorem zdJ.KaG(h:p:=by clear fM y2 x0 x1 x2 y0 y1 Kx;replace hB:=ai.then hB hL;clear hL;exact Zck):p:=h
theorem zga.Kbw(h:p:=by go_big_quiet_step ((go_at_call 144;exact aF (Nat.le_refl _) (Jz v v' _)));open zdJ in exact ZbB):p:=h
theorem WK (A:Option Addr)(c:Nat)(l:List Val)(A':Option Addr)(c':Nat)(l':List Val)(w:World)(h:RV w w.heap.size A l)(h':RV w w.heap.size A' l')(hm:l.length<=1000)(hm':l'.length<=1000):
  ar 90 #[.slice A l.length c,.slice A' l'.length c'] w λ e w'=>e=.returned (af (bX l l'))/\aj w w':=by
 have HR:=aa h;have HR':=aa h';clear h h';go_enter Tryz.func90,Tryz.ntmps90;go_wp2_with fail;go_loopw [5] (λ i wr=>∃k:Nat,k<=l.length/\k<=l'.length/\i=af k/\bX (l.drop k) (l'.drop k)=bX l l'/\aj w wr) (λ i _=>l.length - (intOf i).toNat);case atStart=>exact Zhq
 case round=>
  obtain⟨k,hk,Ru,rfl,hd,hB⟩:=hrel;have HD:=aa hd;clear hd;by_cases hlt:k < l.length
  ·by_cases Br:k < l'.length
   ·obtain⟨b,off,rfl,hb,c0,c1,c2⟩:=(HR.ae.later hB).at_ hlt;obtain⟨b',off',rfl,hb',d0,d1,d2⟩:=(HR'.ae.later hB).at_ Br;have HS:=aa (Fl l l' k hlt Br);generalize l[k]=v at*;generalize l'[k]=v' at*;have x0:=λ q:Ext wr.heap.size wr=>(q.h.cell (p:=⟨b,off+k*3,none⟩) hb).trans c0
    have x1:=λ q:Ext wr.heap.size wr=>(q.h.cell (p:=⟨b,off+k*3+1,none⟩) hb).trans c1
    have x2:=λ q:Ext wr.heap.size wr=>(q.h.cell (p:=⟨b,off+k*3+2,none⟩) hb).trans c2
    have y0:=λ q:Ext wr.heap.size wr=>(q.h.cell (p:=⟨b',off'+k*3,none⟩) hb').trans d0
    have y1:=λ q:Ext wr.heap.size wr=>(q.h.cell (p:=⟨b',off'+k*3+1,none⟩) hb').trans d1
    have Kx:=λ q:Ext wr.heap.size wr=>(q.h.cell (p:=⟨b',off'+k*3+2,none⟩) hb').trans d2
    clear c0 c1 c2 d0 d1 d2;go_upto_region 4 with fail;refine aM 9 wr.heap.size wr (Below.refl _ _) Taa Taa Taa Taa ?_;open zga in exact Zea
   ·have HS:=aa (Fm l l' k hlt WC);have n1:¬l.length < l'.length:=by omega
    have n2:l'.length < l.length:=by omega
    exact Zc2
  ·by_cases Br:k < l'.length
   ·have HS:=aa (Fo l l' k WC Br);have n1:l.length < l'.length:=by omega
    exact Zc2
   ·have HS:=aa (KD l l' k WC WC);have n1:¬l.length < l'.length:=by omega
    have n2:¬l'.length < l.length:=by omega
    exact Zc2
theorem WM (A:Option Addr)(c:Nat)(l:List Val)(A':Option Addr)(c':Nat)(l':List Val)(w:World)(h:RV w w.heap.size A l)(h':RV w w.heap.size A' l')(hm:l.length<=1000)(hm':l'.length<=1000):
  ar 53 #[.slice A l.length c,.slice A' l'.length c'] w λ e w'=>e=.returned (.bool (bX l l'==0))/\aj w w':=by have HL:=WK A c l A' c' l' w h h' hm hm';clear h h';go_enter Tryz.func53,Tryz.ntmps53;go_wp2_with fail;refine HL.mono ?_;exact ZcX
theorem zdK.KaG(h:p:=by exact Zfo):p:=h
theorem zgb.Kbw(h:p:=by go_big_quiet_step ((go_at_call 53;exact aF (Nat.le_refl _) (hc1 _)));open zdK in exact ZbB):p:=h
theorem MX (A:Option Addr)(c:Nat)(rs:List aW)(A':Option Addr)(c':Nat)(ss:List aW)(w:World)(h:RR w w.heap.size A rs)(h':RR w w.heap.size A' ss)(he:rs.map (·.l)=ss.map (·.l))(hm:rs.length<=1000)(hl:∀r∈rs,r.l.length<=1000):
  ar 26 #[.slice A rs.length c,.slice A' ss.length c'] w λ e w'=>e=.returned (.bool true)/\aj w w':=by
 have hlen:ss.length=rs.length:=by simpa using(congrArg List.length he).symm
 have Nn:=aa (show∀i (h1:i < rs.length) (h2:i < ss.length),ss[i].l=rs[i].l from λ i h1 h2=>by
  have:=congrArg (λ l=>l[i]?) he
  simp only[getElem?_map,getElem?_eq_getElem h1,getElem?_eq_getElem h2,Option.map_some,Option.some.injEq] at this
  exact this.symm)
 have Uy:=aa hlen;have HR:=aa h;have HR':=aa h';have HL:=aa hl;rw[hlen];clear he h h' hl hlen;go_enter Tryz.func26,Tryz.ntmps26;go_wp2_with fail;go_loopw [5] (λ Kx wr=>∃k:Nat,k<=rs.length/\Kx=af k/\aj w wr) (λ Kx _=>rs.length - (intOf Kx).toNat);case atStart=>exact Zgy
 case round=>
  obtain⟨i,HX,rfl,cJ⟩:=hrel;by_cases vo:i < rs.length
  ·have YQ:i < ss.length:=by rw[Uy.ae];exact vo
   obtain⟨b1,o1,rfl,l1,c1,r1⟩:=(HR.ae.later cJ).at_ vo;obtain⟨b2,o2,rfl,l2,c2_,r2⟩:=(HR'.ae.later cJ).at_ YQ;have k1:=λ q:Ext wr.heap.size wr=>(q.h.cell (p:=⟨b1,o1+i,none⟩) l1).trans c1
   have k2:=λ q:Ext wr.heap.size wr=>(q.h.cell (p:=⟨b2,o2+i,none⟩) l2).trans c2_
   have hc1:=λ q:Ext wr.heap.size wr=>WM rs[i].A rs[i].c rs[i].l ss[i].A ss[i].c ss[i].l q.w (r1.later q.h) (r2.later q.h) (HL.ae _ (getElem_mem vo)) (by rw[Nn.ae i vo YQ];exact HL.ae _ (getElem_mem vo))
   have t1:(bX rs[i].l ss[i].l==0)=true:=by rw[Nn.ae i vo YQ,sB];rfl
   clear c1 c2_ l1 l2 r1 r2;go_upto_region 6 with fail;refine aM 10 wr.heap.size wr (Below.refl _ _) Taa Taa Taa Taa ?_;open zgb in exact Zea
  ·go_wp2_with fail;go_ret;exact⟨rfl,cJ⟩
theorem aej:Tryz.f11.body=some ey:=by unfold ey;simp only[Tryz.f11,Option.getD_some]
theorem aek (a b c:Value):(#[a,b,c]++Array.replicate (Tryz.f11.ntmps - (#[a,b,c]:Array Value).size) undef).size=183:=by simp[Tryz.f11]
variable{g6:Nat}{c:Value}
theorem zgE.KbG(h:p:=by simp[results,Tryz.f11,go_sem,e6,e7,v0,v1,v2]):p:=h
theorem JB(h6:T.getD 6 undef=aw g6)(h7:T.getD 7 undef=u)(HV:aB W g6 33 #[a,b,c]):(results Tryz.f11 T).run Tryz.prog W=.ok (.tuple #[.agg #[a,b,c],u]) W:=by
 have e6:T[6]?.getD undef=aw g6:=by rw[<- h6];simp[Array.getD_eq_getD_getElem?]
 have e7:T[7]?.getD undef=u:=by rw[<- h7];simp[Array.getD_eq_getD_getElem?]
 open zgE in exact Zew
def Dz (q:Qy)(cols:List aX)(rows:List (List Val))(w0:World)(e:Ending)(W:World):Prop:=
 aj w0 W/\match jF q cols rows with
 | .error er=>er≠0/\e=.returned (.tuple #[.agg #[az,az,af 0],af er])
 | .ok (hd,la)=>∃HA hc ov out,e=.returned (.tuple #[.agg #[.slice HA hd.length hc,ov,af la.length],af 0])/\aI aS 113 2 W w0.heap.size (.slice HA hd.length hc) hd/\aI ck 38 1 W w0.heap.size ov out/\(∀r∈out,bM W r.A r.l)/\out.map (·.l)=la
theorem U8{p:ji}(h:dS q cols=.ok p):∀n∈q.lim,0<=n:=by
 unfold dS at h;split at h
 ·cases h
 ·rename_i hn;intro n hm;rcases hl:q.lim with _ |⟨a,_ |⟨b,l⟩⟩
  ·rw[hl] at hm;cases hm
  ·rw[hl] at hm hn;rw[mem_singleton] at hm;subst hm;refine Int.not_lt.1 λ hlt=>hn (.inr (.inr (.inr ⟨rfl,hlt⟩)))
  ·rw[hl] at hn;exact absurd (.inr (.inr (.inl Tad))) hn
theorem WN{p:ji}(h:dS q cols=.ok p):q.lim.length<=1:=by
 unfold dS at h;split at h
 ·cases h
 ·rename_i hn;exact Nat.not_lt.1 λ hlt=>hn (.inr (.inr (.inl hlt)))
theorem JC{p:ji}(h:dS q cols=.ok p):q.all.any (λ t=>decide (32 < t.depth))=false:=by
 unfold dS at h;split at h
 ·cases h
 ·split at h
  ·cases h
  ·rename_i hn;exact Bool.not_eq_true _▸hn
structure JD (w0:World) (q:Qy) (L:QL) (CA:Option Addr) (cc:Nat) (cols:List aX) (RA:Option Addr) (rows:List aW):Prop where
 qy:pY w0 q L
 ok:q.Ok
 pl:Dt (Af q L CA cc cols) w0 q L cols
 cl:cols.length<=1000
 rr:RR w0 w0.heap.size RA rows
 each:∀r∈rows,r.l.length<=1000/\∀v∈r.l,v.Ok
 rn:rows.length<=300
 ng:q.aL.length<=1000
 ni:q.items.length<=1000
 no:q.ord.length<=1000
 nh:q.eU.length<=1000
 nw:q.cD.length<=1000
 sm:q.all.any (λ t=>decide (32 < t.depth))=false->q.aL.length+(q.aL.length+2*Tr.aQ (q.items.map (·.1))+2*Tr.aQ q.eU+2*Tr.aQ (q.ord.map (·.1)))<=1000
 lim:∀n∈q.lim,n<=9223372036854775807
variable{RA:Option Addr}
theorem JD.later{w:World}       (h:JD w0 q L CA cc cols RA rows)(hb:aj w0 w):JD w q L CA cc cols RA rows:=
 ⟨h.qy.later hb,h.ok,h.pl.later hb,h.cl,RR.later h.rr hb,h.each,h.rn,h.ng,h.ni,h.no,h.nh,h.nw,h.sm,h.lim⟩
theorem zhb.KbR(h:p:=by clear pE;go_wp2_with fail;refine⟨rfl,_,JB rfl rfl (((Mg.ae.aT 0 _).aT 1 _).aT 2 _),?_⟩;unfold Dz;rw[HR.ae];exact⟨Below.trans LY.ae ((pO Mg.ae).mono LY.ae.size),by decide,rfl⟩):p:=h
theorem ael (q:Qy)(L:QL)(CA:Option Addr)(cc:Nat)(cols:List aX)(RA:Option Addr)(rc:Nat)(rows:List aW)(T:Array Value)(hT:T.size=183)(h0:T.getD 0 undef=mR q L)(h1:T.getD 1 undef=.slice CA cols.length cc)(h2:T.getD 2 undef=.slice RA rows.length rc)(w0:World)(hq:JD w0 q L CA cc cols RA rows):
  (fy ey 0).wp Tryz.prog (bodyPost Tryz.prog Tryz.f11 (Dz q cols (rows.map (·.l)) w0)) { tmps:=T,defers:=[] } w0:=by
 obtain⟨f,rfl⟩:=yt T hT;have h0:f 0=_:=h0;have h1:f 1=_:=h1;have h2:f 2=_:=h2;unfold mR at h0;simp only[XG,h0,h1,h2];clear h0 h1 h2;clear h0 h1 h2 hT;have b1:=ah w0 (.cells (eJ q L) 27);have k3:=aB.new w0 27 (eJ q L);obtain⟨W1,hW1⟩:∃W1,W1=w0.alloc (.cells (eJ q L) 27):=⟨_,rfl⟩;have s1:W1.heap.size=w0.heap.size+1:=by rw[hW1,World.size_alloc]
 rw[<- hW1] at b1 k3;have hL:=ah W1 (.cells #[.slice CA cols.length cc] 28);have k4:=aB.new W1 28 #[.slice CA cols.length cc];obtain⟨W2,hW2⟩:∃W2,W2=W1.alloc (.cells #[.slice CA cols.length cc] 28):=⟨_,rfl⟩;have s2:W2.heap.size=W1.heap.size+1:=by rw[hW2,World.size_alloc]
 rw[<- hW2] at hL k4;have b3:=ah W2 (.cells #[az,az,af 0] 33);have HX:=aB.new W2 33 #[az,az,af 0];obtain⟨W3,hW3⟩:∃W3,W3=W2.alloc (.cells #[az,az,af 0] 33):=⟨_,rfl⟩;rw[<- hW3] at b3 HX;have hb:=ai.then (ai.then b1 hL) b3;have HO:=aa (show aB W3 w0.heap.size 27 (eJ q L)from(k3.later hL).later b3);have K3:=aa (show aB W3 W1.heap.size 28 #[.slice CA cols.length cc] from k4.later b3);have K6:=aa HX;have HB:=aa hb;have HQ:=aa (hq.later hb);have xd:=aa (show w0.heap.size<=W2.heap.size by omega);have y0:=HO.ae.cell 0
 have y1:=HO.ae.cell 1;have c2:=HO.ae.cell 2;have y3:=HO.ae.cell 3;have y4:=HO.ae.cell 4;have y5:=HO.ae.cell 5;have y6:=HO.ae.cell 6;have x7:=HO.ae.cell 7
 have d0:=K3.ae.cell 0;unfold eJ at y0 y1 c2 y3 y4 y5 y6 x7;simp only[Uaa] at y0 y1 c2 y3 y4 y5 y6 x7 d0;subst hW2;subst hW1;obtain⟨g3,hg3⟩:∃g3,g3=w0.heap.size:=⟨_,rfl⟩;have ve:=aa hg3;have hpl:=QZ q L CA cc cols W3 HQ.ae.qy HQ.ae.ok HQ.ae.cl HQ.ae.pl;unfold mR at hpl;have Pj:=aa hpl;have Xh:=aa hq;clear hq b1 hL b3 k3 k4 HX hb s1 s2 hg3 hpl;unfold eJ at hW3;simp only[World.size_alloc] at y0 y1 c2 y3 y4 y5 y6 x7 d0 K3 K6 xd;simp only[ey,fy,Tryz.f11,Option.getD_some];refine wp_seq_k λ K hK=>?_
 have HK:=aa hK;clear hK;go_wp2_with fail;refine HK.ae _ _ ?_;clear HK;rw[<- hW3];have HW3:=aa hW3;clear hW3;obtain⟨g4,hg4⟩:∃g4,g4=w0.heap.size+1:=⟨_,rfl⟩;obtain⟨g6,rL⟩:∃g6,g6=w0.heap.size+1+1:=⟨_,rfl⟩;obtain⟨g3,hg3⟩:∃g3,g3=w0.heap.size:=⟨_,rfl⟩;have avO:=aa (show w0.heap.size<=g6 by omega);rw[<- rL] at K6 ⊢;rw[<- hg4] at d0 K3 ⊢;rw[<- hg3] at y0 y1 c2 y3 y4 y5 y6 x7 HO ⊢;clear hg3 hg4 rL xd ve HW3;refine wp_seq_k λ Kx oI=>?_
 have Hm:=aa oI;clear oI;go_wp2_with fail;clear y0 y1 c2 y3 y4 y5 y6 x7 d0;refine Pj.ae.mono ?_;intro e W hp;unfold Jw at hp;have uA:=aa (aeh q cols (rows.map (·.l)))
 cases q3:dS q cols with
 | error er=>
   rw[q3] at hp;obtain⟨hne,rfl,q4⟩:=hp;have HR:=aa (show jF q cols (rows.map (·.l))=.error er by rw[uA.ae,q3]);have t1:(er != 0)=true:=by simp[hne]
   have nJ:=aa hne;have HX:=K6.ae.later q4;have zW:=aa HX
   have z0:=HX.cell 0;have z1:=HX.cell 1;have x2:=HX.cell 2;have f0:=HX.frozen 0;have f1:=HX.frozen 1;have f2:=HX.frozen 2;simp only[Uaa] at z0 z1 x2
   have Q4:=aa (Below.trans HB.ae (q4.mono HB.ae.size));clear q3 hne HX q4;go_wp2_with fail;refine Hm.ae _ _ ?_;clear Hm;refine wp_seq_k λ K1 hK1=>?_
   clear hK1;go_wp2_with fail;refine⟨rfl,_,JB rfl rfl (((zW.ae.aT 0 _).aT 1 _).aT 2 _),?_⟩;unfold Dz;rw[HR.ae];exact⟨Below.trans Q4.ae ((pO zW.ae).mono Q4.ae.size),nJ.ae,rfl⟩
 | ok p=>
   rw[q3] at hp;obtain⟨gp,r,u,v,ya,yi,yh,yo,rfl,ajn⟩:=hp;have Y2:=HQ.ae;obtain⟨yg,AA,ac,VA,vc,HA,hc,IA,ic,JA,jc,DA,dc,hF,ih⟩:=U1 ajn Y2.pl;have q1:=adX q3 Y2.pl.qi Y2.pl.qh Y2.pl.qo;obtain⟨q2,_⟩:=uJ q3;have q4:=ajn.base;have HF:=aa hF;have IH:=aa ih;have Q1:=aa q1;have HFN:=aa q2;have Q3:=aa q3;have Q4:=aa q4;have rK:=aa (Below.trans HB.ae (q4.mono HB.ae.size));have tF:=aa (HO.ae.later q4);have wI:=aa (K3.ae.later q4);have zW:=aa (K6.ae.later q4);have Sx:=aa (Y2.later q4);clear q3 ajn Y2 hF ih q1 q2 q4;go_wp2_with fail;refine Hm.ae _ _ ?_
   clear Hm;refine wp_seq_k λ K1 hK1=>?_
   have nD:=aa hK1;clear hK1;go_wp2_with fail;refine nD.ae _ _ ?_;clear nD;refine wp_seq_k λ HO hK2=>?_
   have II:=aa hK2;clear hK2
   have d0:=wI.ae.cell 0;simp only[getElem?_toArray,getElem?_cons_zero] at d0;go_wp2_with fail;refine(MG g4 cols CA cc rows RA rc W wI.ae.lt d0 (by have:=Sx.ae.cl;omega) (by have:=Sx.ae.rn;omega) (λ x q3=>by have:=(Sx.ae.each x q3).1;omega) Sx.ae.pl.ok.cols Sx.ae.rr).mono ?_;rintro e w2 ⟨rfl,hL⟩;have fE:=aa hL;have aqj:((rows.map (·.l)).any λ r=> !jq cols r)=(rows.any λ r=> !jq cols r.l):=by rw[any_map];rfl
   have aqk:=aa aqj;have LY:=aa (Below.trans rK.ae (hL.mono rK.ae.size));have Mg:=aa (zW.ae.later hL);clear hL aqj d0
   cases pE:(rows.any λ r=> !jq cols r.l)with
   | true=>
     have HR:=aa (show jF q cols (rows.map (·.l))=.error 40 by rw[uA.ae,Q3.ae];dsimp only;rw[aqk.ae,pE,if_pos rfl])
     have z0:=Mg.ae.cell 0;have z1:=Mg.ae.cell 1;have x2:=Mg.ae.cell 2;have f0:=Mg.ae.frozen 0;have f1:=Mg.ae.frozen 1;have f2:=Mg.ae.frozen 2;simp only[Uaa] at z0 z1 x2
     clear pE;go_wp2_with fail;refine⟨rfl,_,JB rfl rfl (((Mg.ae.aT 0 _).aT 1 _).aT 2 _),?_⟩;unfold Dz;rw[HR.ae];exact⟨Below.trans LY.ae ((pO Mg.ae).mono LY.ae.size),by decide,rfl⟩
   | false=>
     have HR:=aa (show jF q cols (rows.map (·.l))=(match wY q p cols (cZ cols q.cD (rows.map (·.l))).2 (cZ cols q.cD (rows.map (·.l))).1 with | .error e=> .error e | .ok la=> .ok (p.head,la)) by rw[uA.ae,Q3.ae];dsimp only;rw[aqk.ae,pE,if_neg Tab];try(try(generalize wY q p cols _ _=z;cases z <;> rfl)));clear pE;go_wp2_with fail;refine II.ae _ _ ?_;clear II;refine wp_seq_k λ K3 hK3=>?_
     have CI:=aa hK3;clear hK3;have yV:=aa (Sx.ae.later fE.ae);obtain⟨yw,xS,hR,Wl⟩:=T9 yV.ae.pl.iw;have y3:=(tF.ae.later fE.ae).cell 3;have d0:=(wI.ae.later fE.ae).cell 0;unfold eJ at y3;simp only[Uaa] at y3 d0;rw[xS] at y3;have xT:=aa hR;have GK:=aa Wl;clear hR Wl xS;go_wp2_with fail;clear y3 d0;have hyl:yw.length=q.cD.length:=(dX GK.ae).symm;refine(Tx cols CA cc q.cD yw L.w.A L.w.c rows RA rc w2 (by have:=yV.ae.cl;omega) (by have:=yV.ae.rn;omega) (λ x q3=>⟨by have:=(yV.ae.each x q3).1;omega,(yV.ae.each x q3).2⟩) yV.ae.pl.qw GK.ae (by rw[hyl];have:=yV.ae.nw;omega) xT.ae yV.ae.pl.ok.cols yV.ae.rr).mono ?_;rintro e w3 ⟨v3,rfl,ho3,b3⟩;have TQ:=aa ho3;have oB:=aa b3;have Xi:=aa (T8 cols q.cD rows);have JE:=aa (Below.trans fE.ae (b3.mono fE.ae.size));clear ho3 b3 hyl;obtain⟨e0,hK4⟩:∃e0,e0=(cZ cols q.cD (rows.map (·.l))).2:=⟨_,rfl⟩;rw[<- hK4] at HR ⊢;rw[<- Xi.ae] at HR;clear hK4;go_wp2_with fail;refine CI.ae _ _ ?_;clear CI;refine wp_seq_k λ K5 hK5=>?_
     have HK5:=aa hK5;clear hK5;have d0:=(wI.ae.later JE.ae).cell 0;simp only[getElem?_toArray,getElem?_cons_zero] at d0;go_wp2_with fail;refine HK5.ae _ _ ?_;clear HK5 d0;have aCT:=aa (Below.trans Q4.ae (JE.ae.mono Q4.ae.size));have avP:=aa (HF.ae.later JE.ae);have avQ:=aa (Below.trans rK.ae (JE.ae.mono rK.ae.size));have zA:(js (iA cols q.cD) rows).length<=300:=Nat.le_trans (length_filter_le _ _) HQ.ae.rn;have aeg:∀x∈js (iA cols q.cD) rows,wX w3 x:=λ x q3=>by have q3:=(List.mem_filter.1 q3).1;obtain⟨i,hi,he⟩:=getElem_of_mem q3;obtain⟨_,_,_,_,_,hv⟩:=yV.ae.rr.at_ hi;rw[he] at hv;have hv3:RV w3 w3.heap.size x.A x.l:=hv.later oB.ae;exact⟨hv3,HQ.ae.each x q3⟩
     have hsm:=HQ.ae.sm (JC Q3.ae);have hln:=Q1.ae.ln
     have JU:=λ T hT a3 a6 a8 a9 FA F8=>U6 w0 g3 g6 gp q L p cols CA cc yg ya yi yh yo AA ac VA vc HA hc IA ic JA jc DA dc e0 (js (iA cols q.cD) rows) w2.heap.size v3 T hT a3 a6 a8 a9 FA F8 [] w3 (bodyPost Tryz.prog Tryz.f11 (Dz q cols (rows.map (·.l)) w0)) avP.ae Q1.ae HFN.ae HQ.ae.pl.qg HQ.ae.ng WC WC (by have:=HQ.ae.cl;omega) (by rw[Q1.ae.lh];have:=HQ.ae.nh;omega) HQ.ae.ni HQ.ae.no Xh.ae.pl.io Xh.ae.qy.l (λ n hn=>⟨U8 Q3.ae n hn,HQ.ae.lim n hn⟩) (WN Q3.ae) avQ.ae (tF.ae.later JE.ae) (zW.ae.later JE.ae) avO.ae TQ.ae aeg zA
      (λ er hr hne a W e1 e2 e3 HX q4=>⟨e1,_,JB e2 e3 HX,by
        unfold Dz
        rw[HR.ae,hr]
        exact⟨q4,hne,rfl⟩⟩)
      (λ la hr a W ov out e1 e2 e3 HX oW hk yu q4 gW=>⟨e1,_,JB e2 e3 HX,by
        unfold Dz
        rw[HR.ae,hr]
        have hlen:out.length=la.length:=by rw[<- yu,length_map]
        rw[hlen]
        have hh:=(IH.ae.later JE.ae).grown gW ((IH.ae.later JE.ae).other (zW.ae.later JE.ae) Tab)
        exact⟨q4,HA,hc,ov,out,rfl,hh.down HB.ae.size,oW,hk,yu⟩⟩)
     simp only[ey,fy,Tryz.f11,Option.getD_some] at JU;exact JU _ rfl rfl rfl rfl rfl rfl rfl
theorem ziz.Kcr(h:p:=by
 have t2:T.getD 2 undef=.slice RA rows.length rc:=by rw[JR];simp[Array.getD_eq_getD_getElem?]
 clear JR;exact ael q L CA cc cols RA rc rows T hT t0 t1 t2 w0 hq):p:=h
theorem JF (q:Qy)(L:QL)(CA:Option Addr)(cc:Nat)(cols:List aX)(RA:Option Addr)(rc:Nat)(rows:List aW)(w0:World)(hq:JD w0 q L CA cc cols RA rows):
  ar 11 #[mR q L,.slice CA cols.length cc,.slice RA rows.length rc] w0 (Dz q cols (rows.map (·.l)) w0):=by
 refine calls_of_wp Tryz.func11 aej ?_;obtain⟨T,JR⟩:∃T:Array Value,T= #[mR q L,.slice CA cols.length cc,.slice RA rows.length rc]++Array.replicate (Tryz.f11.ntmps - (#[mR q L,.slice CA cols.length cc,.slice RA rows.length rc]:Array Value).size) undef:=⟨_,rfl⟩;rw[<- JR];have hT:T.size=183:=by rw[JR];exact aek _ _ _
 open ziz in exact ZhC
mutual
def Tr.small:Tr->Prop
 | .mk op v name width args=>name.size<=1048576/\v.s.size<=1048576/\Tr.smalls args
def Tr.smalls:List Tr->Prop
 | []=>True
 | t::ts=>t.small/\Tr.smalls ts
end
theorem ie:∀ {a b:List Tr},Tr.smalls a->Tr.smalls b->Tr.smalls (a++b)
 | [],b,_,h=>h
 | t::a,b,h,k=>by unfold Tr.smalls at h;show Tr.smalls (t::(a++b));unfold Tr.smalls;exact⟨h.1,ie h.2 k⟩
variable{x:Int}
theorem eH(h0:0<=x)(h1:x < 9223372036854775808):wrap64 x=x:=by unfold wrap64;omega
mutual
theorem size_grow:∀(t:Tr),t.small->(Tr.aQ t.args<=1099511627776)->0<=Tr.dB 0 t.args/\Tr.dB 0 t.args<=Tr.aQ t.args*1048576/\(Tr.dB 0 t.args < 2000->(Tr.aQ t.args:Int)<=Tr.dB 0 t.args)
 | .mk op v name width args,h=>by intro hn;unfold Tr.small at h;replace hn:Tr.aQ args<=1099511627776:=hn;have k:=uT args h.2.2 0 (Int.le_refl _) hn WC;show 0<=Tr.dB 0 args/\Tr.dB 0 args<=Tr.aQ args*1048576/\(Tr.dB 0 args < 2000->(Tr.aQ args:Int)<=Tr.dB 0 args);obtain⟨k1,k2,k3⟩:=k;refine⟨k1,by omega,λ h=>?_⟩;have:=k3 h;omega
theorem uT:∀(ts:List Tr),Tr.smalls ts->∀(n:Int),0<=n->Tr.aQ ts<=1099511627776->n<=2305843009213693952 - (Tr.aQ ts:Int)*1048576->n<=Tr.dB n ts/\Tr.dB n ts<=n+Tr.aQ ts*1048576/\(Tr.dB n ts < 2000->n+Tr.aQ ts<=Tr.dB n ts)
 | [],_=>by intro n h0 _ _;unfold Tr.dB Tr.aQ;exact⟨Int.le_refl _,by omega,λ _=>by omega⟩
 | t::ts,h=>by
   intro n h0 hn hm;unfold Tr.smalls at h;have ht:=size_grow t h.1;have hs:=uT ts h.2;obtain⟨op,v,name,width,args⟩:=t;have hd:Tr.aQ (.mk op v name width args::ts)=Tr.aQ args+1+Tr.aQ ts:=rfl;rw[hd] at hn hm ⊢;have h1:=h.1;unfold Tr.small at h1;have ht:Tr.aQ args<=1099511627776->0<=Tr.dB 0 args/\Tr.dB 0 args<=Tr.aQ args*1048576/\(Tr.dB 0 args < 2000->(Tr.aQ args:Int)<=Tr.dB 0 args):=ht;obtain⟨a1,a2,a3⟩:=ht WC;have e:Tr.dB n (.mk op v name width args::ts)=if n < 2000 then Tr.dB (Bk n name.size v.s.size (Tr.dB 0 args)) ts else n:=by conv=>lhs;unfold Tr.dB
   rw[e];by_cases hlt:n < 2000
   ·rw[if_pos hlt];generalize Tr.dB 0 args=m at*;have hse:∃z:Int,Bk n name.size v.s.size m=n+1+z+m/\0<=z/\z<=1000000:=by refine⟨(name.size:Int)/ 5000*2000+(v.s.size:Int)/ 5000*2000,?_,by omega,by omega⟩;unfold Bk;rw[eH (x:=n+1) WC WC,eH (x:=(name.size:Int)/ 5000) WC WC,eH (x:=(name.size:Int)/ 5000*2000) WC WC,eH (x:=(v.s.size:Int)/ 5000) WC WC,eH (x:=(v.s.size:Int)/ 5000*2000) WC WC,eH (x:=n+1+(name.size:Int)/ 5000*2000) WC WC,eH (x:=n+1+(name.size:Int)/ 5000*2000+(v.s.size:Int)/ 5000*2000) WC WC,eH WC WC];omega
    obtain⟨z,hz,z0,z1⟩:=hse;rw[hz];obtain⟨b1,b2,b3⟩:=hs (n+1+z+m) WC WC WC;refine⟨by omega,by omega,λ hf=>?_⟩;have:=b3 hf;have:=a3 WC;omega
   ·rw[if_neg hlt];exact⟨Int.le_refl _,by omega,λ hf=>absurd hf hlt⟩
end
theorem MZ(hs:Tr.smalls ts)(hn:Tr.aQ ts<=1099511627776)(h:Tr.dB 0 ts<=300):Tr.aQ ts<=300:=by have:=(uT ts hs 0 (Int.le_refl _) hn WC).2.2 WC;omega
theorem jT (a b:List Tr):Tr.aQ (a++b)=Tr.aQ a+Tr.aQ b:=by rw[fT,fT,fT,map_append,sum_append]
theorem uU (q:Qy):Tr.aQ q.all=Tr.aQ (q.items.map (·.1))+(Tr.aQ q.cD+Tr.aQ q.aL+Tr.aQ q.eU)+Tr.aQ (q.ord.map (·.1)):=by unfold Qy.all;rw[jT,jT,jT,jT]
structure Few (q:Qy):Prop where
 g:q.aL.length<=40
 w:q.cD.length<=40
 h:q.eU.length<=40
 i:q.items.length<=40
 o:q.ord.length<=40
 nodes:Tr.aQ q.all<=320
 lim:∀n∈q.lim,n<=9223372036854775807
structure CR (w:World) (CA:Option Addr) (cols:List aX) (RA:Option Addr) (rows:List aW):Prop where
 env:zH w
 cr:RC w w.heap.size CA cols
 cl:cols.length<=20
 rr:RR w w.heap.size RA rows
 rn:rows.length<=100
 each:∀r∈rows,r.l.length<=30/\∀v∈r.l,v.Ok
theorem CR.later{w:World}    (h:CR w CA cols RA rows)(hb:aj w w'):CR w' CA cols RA rows:=
 ⟨h.env.later hb,h.cr.later hb,h.cl,h.rr.later hb,h.rn,h.each⟩
theorem sZ{w:World}   (cc:Nat)   (JQ:pY w q L)(ok:q.Ok)(f:Few q)(c:CR w CA cols RA rows):JD w q L CA cc cols RA rows:=by have hn:=f.nodes;rw[uU] at hn;have h1:=f.g;have h2:=f.w;have h3:=f.h;have h4:=f.i;have h5:=f.o;have h6:=c.cl;have h7:=c.rn;refine⟨JQ,ok,⟨⟨c.env,JQ.g,ok.g,by show q.aL.length<=1000000;omega,c.cr,by show cols.length<=1000000;omega⟩,ok.w,JQ.w,by omega,ok.g,JQ.g,by omega,ok.i,JQ.i,by omega,by omega,ok.h,JQ.h,by omega,ok.o,JQ.o,by omega,λ _=>by omega⟩,by omega,c.rr,λ r hr=>⟨by have:=(c.each r hr).1;omega,(c.each r hr).2⟩,by omega,by omega,by omega,by omega,by omega,by omega,λ _=>by omega,f.lim⟩
def aqm (w:World)(hd:List aX)(la:List (List Val))(e:Ending)(w':World):Prop:=∃HA hc OA oc out,e=.returned (.tuple #[.agg #[.slice HA hd.length hc,.slice OA (List.length out) oc,af la.length],af 0])/\RC w' w'.heap.size HA hd/\RR w' w'.heap.size OA out/\out.map (·.l)=la/\aj w w'
variable{la:List (List Val)}
theorem Re{w:World}      (rc:Nat) (h:JD w q L CA cc cols RA rows)  (hr:jF q cols (rows.map (·.l))=.ok (hd,la)):
  ar 11 #[mR q L,.slice CA cols.length cc,.slice RA rows.length rc] w (aqm w hd la):=by
 refine(JF q L CA cc cols RA rc rows w h).mono ?_;rintro e w1 ⟨hb,hk⟩;rw[hr] at hk;obtain⟨HA,hc,ov,out,rfl,h1,h2,h3,h4⟩:=hk;obtain⟨OA,oc,rfl,h5⟩:=MW h2 λ r hr=>(h3 r hr).rv
 obtain⟨A',c',h6,h7⟩:=AG h1;injection h6 with e1 e2 e3;subst e1;exact⟨HA,hc,OA,oc,out,rfl,h7,h5,h4,hb⟩
theorem aem{w:World}      (rc:Nat) (h:JD w q L CA cc cols RA rows) (hr:jF q cols (rows.map (·.l))=.error er):
  ar 11 #[mR q L,.slice CA cols.length cc,.slice RA rows.length rc] w λ e w'=>er≠0/\e=.returned (.tuple #[.agg #[az,az,af 0],af er])/\aj w w':=by refine(JF q L CA cc cols RA rc rows w h).mono ?_;rintro e w1 ⟨hb,hk⟩;rw[hr] at hk;exact⟨hk.1,hk.2,hb⟩
theorem ajp:(fo R.XC).Ok:=by refine⟨?_,?_,?_,?_,?_,by decide,by decide,by decide,by decide,by decide⟩<;> simp[R.XC,fo,gJ,qj,Tr.cN,Tr.ok,Val.Ok,FY,R.rR,R.kV,R.kT,R.Ap,R.ui,R.tB,R.jG]
theorem aen:Few (fo R.XC):=by refine⟨by decide,by decide,by decide,by decide,by decide,by decide,?_⟩;intro n hn;simp[R.XC,fo] at hn
theorem ajq:(fo R.XD).Ok:=by refine⟨?_,?_,?_,?_,?_,by decide,by decide,by decide,by decide,by decide⟩<;> simp[R.XD,fo,gJ,qj,Tr.cN,Tr.ok,Val.Ok,FY,R.rR,R.kV,R.kT,R.Ap,R.ui,R.tB,R.jG]
theorem aeo:Few (fo R.XD):=by refine⟨by decide,by decide,by decide,by decide,by decide,by decide,?_⟩;intro n hn;simp[R.XD,fo] at hn;omega
theorem ajr:(fo R.L6).Ok:=by refine⟨?_,?_,?_,?_,?_,by decide,by decide,by decide,by decide,by decide⟩<;> simp[R.L6,fo,gJ,qj,Tr.cN,Tr.ok,Val.Ok,FY,R.rR,R.kV,R.kT,R.Ap,R.ui,R.tB,R.jG]
theorem aep:Few (fo R.L6):=by refine⟨by decide,by decide,by decide,by decide,by decide,by decide,?_⟩;intro n hn;simp[R.L6,fo] at hn
theorem ajs:(fo R.XE).Ok:=by refine⟨?_,?_,?_,?_,?_,by decide,by decide,by decide,by decide,by decide⟩<;> simp[R.XE,fo,gJ,qj,Tr.cN,Tr.ok,Val.Ok,FY,R.rR,R.kV,R.kT,R.Ap,R.ui,R.tB,R.jG]
theorem aeq:Few (fo R.XE):=by refine⟨by decide,by decide,by decide,by decide,by decide,by decide,?_⟩;intro n hn;simp[R.XE,fo] at hn
theorem U9{w:World}  (hE:zH w)(h1:RC w w.heap.size CA my)(h2:RR w w.heap.size RA rs)(h3:rs.map (·.l)=wO):CR w CA my RA rs:=by
 have hl:rs.length=3:=by have:=congrArg List.length h3;simpa [wO] using this
 refine⟨hE,h1,by decide,h2,by omega,λ r hr=>?_⟩;have hm:r.l∈wO:=by rw[<- h3];exact List.mem_map.2 ⟨r,hr,rfl⟩
 simp only[wO,mem_cons,not_mem_nil,or_false] at hm;rcases hm with h | h | h <;> rw[h] <;> refine⟨by decide,λ v hv=>?_⟩<;> simp only[mem_cons,not_mem_nil,or_false] at hv <;> rcases hv with rfl | rfl <;> exact⟨by decide,by decide⟩
variable{out:List aW}
theorem uV(h:out.map (·.l)=la)(h1:la.length<=1000)(h2:∀r∈la,r.length<=1000):out.length<=1000/\∀r∈out,r.l.length<=1000:=by subst h;exact⟨by simpa using h1,λ r hr=>h2 _ (List.mem_map.2 ⟨r,hr,rfl⟩)⟩
theorem ajt{w:World} {g:Nat} {a:Int}(h:aB w g 44 #[ag 2,af a,au]):RV w w.heap.size (some ⟨g,0,none⟩) [num a]:=by
 refine .inr ⟨_,0,rfl,h.lt,λ i x hx=>?_⟩
 match i,hx with
 | 0,hx=>exact Zhe
 | n+1,hx=>cases hx
variable{z:Int}
theorem V0(OA:Option Addr)(oc:Nat)(out:List aW)(g a b:Nat) {y u:Int}(w:World)(ho:RR w w.heap.size OA out)(hm:out.map (·.l)=[[num x,num y],[num z,num u]])(hs:out.length<=1000/\∀r∈out,r.l.length<=1000)(k0:aB w g 38 #[aH a 2 2,aH b 2 2])(k1:aB w a 44 #[ag 2,af x,au,ag 2,af y,au])(k2:aB w b 44 #[ag 2,af z,au,ag 2,af u,au]):
  ar 26 #[.slice OA out.length oc,aH g 2 2] w λ e w'=>e=.returned (.bool true)/\aj w w':=by
 refine MX OA oc out (some ⟨g,0,none⟩) 2 [⟨some ⟨a,0,none⟩,[num x,num y],2⟩,⟨some ⟨b,0,none⟩,[num z,num u],2⟩] w ho ?_ hm hs.1 hs.2;refine .inr ⟨_,0,rfl,k0.lt,λ i r hx=>?_⟩
 match i,hx with
 | 0,hx=>injection hx with hx;subst hx;exact⟨k0.cell 0,Dd k1⟩
 | 1,hx=>injection hx with hx;subst hx;exact⟨k0.cell 1,Dd k2⟩
 | n+2,hx=>cases hx
theorem Na(OA:Option Addr)(oc:Nat)(out:List aW)(g a:Nat) (w:World)(ho:RR w w.heap.size OA out)(hm:out.map (·.l)=[[num x]])(hs:out.length<=1000/\∀r∈out,r.l.length<=1000)(k0:aB w g 38 #[aH a 1 1])(k1:aB w a 44 #[ag 2,af x,au]):
  ar 26 #[.slice OA out.length oc,aH g 1 1] w λ e w'=>e=.returned (.bool true)/\aj w w':=by
 refine MX OA oc out (some ⟨g,0,none⟩) 1 [⟨some ⟨a,0,none⟩,[num x],1⟩] w ho ?_ hm hs.1 hs.2;refine .inr ⟨_,0,rfl,k0.lt,λ i r hx=>?_⟩
 match i,hx with
 | 0,hx=>injection hx with hx;subst hx;exact⟨k0.cell 0,ajt k1⟩
 | n+1,hx=>cases hx
def wkV (qa qb qd:Nat)(OA0:Option Addr)(n0 oc0:Nat)(OA1:Option Addr)(n1 oc1:Nat)(OA3:Option Addr)(n3 oc3:Nat):Nat->World->Value->Prop
 | 0,_,v=>v=af 0
 | 1,_,v=>v=.bool true
 | 2,_,v=>v=.bool true
 | 3,_,v=>v=bh qa 1
 | 4,_,v=>v=.slice OA0 n0 oc0
 | 5,_,v=>v=.agg #[ag 2,af 0,au]
 | 6,_,v=>v=.agg #[ag 2,af 12,au]
 | 7,w,v=>∃g:Nat,v=aH g 2 2/\aB w g 44 #[ag 2,af 0,au,ag 2,af 12,au]
 | 8,_,v=>v=.agg #[ag 2,af 5,au]
 | 9,_,v=>v=.agg #[ag 2,af 1,au]
 | 10,w,v=>∃g:Nat,v=aH g 2 2/\aB w g 44 #[ag 2,af 5,au,ag 2,af 1,au]
 | 11,w,v=>∃g a b:Nat,v=aH g 2 2/\aB w g 38 #[aH a 2 2,aH b 2 2]/\aB w a 44 #[ag 2,af 0,au,ag 2,af 12,au]/\aB w b 44 #[ag 2,af 5,au,ag 2,af 1,au]
 | 12,_,v=>v=.bool true
 | 13,_,v=>v=.bool true
 | 14,_,v=>v=.bool true
 | 15,_,v=>v=af 0
 | 16,_,v=>v=.bool true
 | 17,_,v=>v=.bool true
 | 18,_,v=>v=.bool true
 | 19,_,v=>v=bh qb 2
 | 20,_,v=>v=af 1
 | 21,_,v=>v=.bool true
 | 22,_,v=>v=.bool true
 | 23,_,v=>v=.bool true
 | 24,_,v=>v=bh qb 1
 | 25,_,v=>v=.slice OA1 n1 oc1
 | 26,_,v=>v=.agg #[ag 2,af 7,au]
 | 27,w,v=>∃g:Nat,v=aH g 1 1/\aB w g 44 #[ag 2,af 7,au]
 | 28,w,v=>∃g a:Nat,v=aH g 1 1/\aB w g 38 #[aH a 1 1]/\aB w a 44 #[ag 2,af 7,au]
 | 29,_,v=>v=.bool true
 | 30,_,v=>v=.bool true
 | 31,_,v=>v=.bool true
 | 32,_,v=>v=af 42
 | 33,_,v=>v=.bool true
 | 34,_,v=>v=.bool true
 | 35,_,v=>v=.bool true
 | 36,_,v=>v=af 0
 | 37,_,v=>v=.bool true
 | 38,_,v=>v=.bool true
 | 39,_,v=>v=.bool true
 | 40,_,v=>v=bh qd 1
 | 41,_,v=>v=.slice OA3 n3 oc3
 | 42,_,v=>v=.agg #[ag 2,af 0,au]
 | 43,w,v=>∃g:Nat,v=aH g 1 1/\aB w g 44 #[ag 2,af 0,au]
 | 44,w,v=>∃g a:Nat,v=aH g 1 1/\aB w g 38 #[aH a 1 1]/\aB w a 44 #[ag 2,af 0,au]
 | 45,_,v=>v=.bool true
 | 46,_,v=>v=.bool true
 | _,_,_=>False
theorem WO (qa qb qd:Nat)(OA0:Option Addr)(n0 oc0:Nat)(OA1:Option Addr)(n1 oc1:Nat)(OA3:Option Addr)(n3 oc3:Nat):∀i w w' v,wkV qa qb qd OA0 n0 oc0 OA1 n1 oc1 OA3 n3 oc3 i w v->ai w w'->wkV qa qb qd OA0 n0 oc0 OA1 n1 oc1 OA3 n3 oc3 i w' v:=by
 intro i w w' v h hl
 match i with
 | 0 | 1 | 2 | 3 | 4 | 5 | 6 | 8 | 9 | 12 | 13 | 14 | 15 | 16 | 17 | 18 | 19 | 20 | 21 | 22 | 23 | 24 | 25 | 26 | 29 | 30 | 31 | 32 | 33 | 34 | 35 | 36 | 37 | 38 | 39 | 40 | 41 | 42 | 45 | 46=>exact h
 | 7=>exact ZeW
 | 10=>exact ZeW
 | 11=>obtain⟨g,a,b,h1,f0,f1,f2⟩:=h;exact⟨g,a,b,h1,f0.later hl,f1.later hl,f2.later hl⟩
 | 27=>exact ZeW
 | 28=>exact Zg7
 | 43=>exact ZeW
 | 44=>exact Zg7
 | n+47=>exact h
theorem zd1.KaL(h:p:=by have h0:_=_:=hr.1;have c0:=(K1.ae.later hL).cell 1;exact ZaR):p:=h
theorem zd2.KaL(h:p:=by exact Zev):p:=h
theorem zd3.KaL(h:p:=by have e1:=hc.func 27;have e2:=hc.const (af 12);refine bj (f:=27) (args:= #[af 12]) (w':=w3) TaB ?_;refine(fC 12 w3).mono ?_;exact Zbj):p:=h
theorem zd4.KaL(h:p:=by have h0:_=_:=hr.1;have h1:_=_:=hr.2.1;exact aq (v:=aH w3.heap.size 2 2) (w':=w3.alloc (.cells #[ag 2,af 0,au,ag 2,af 12,au] 44)) Taz ⟨ah w3 _,⟨_,rfl,aB.new w3 _ _⟩⟩):p:=h
theorem zd5.KaL(h:p:=by have e1:=hc.func 27;have e2:=hc.const (af 5);refine bj (f:=27) (args:= #[af 5]) (w':=w3) TaB ?_;refine(fC 5 w3).mono ?_;exact Zbj):p:=h
theorem zd6.KaL(h:p:=by have e1:=hc.func 27;have e2:=hc.const (af 1);refine bj (f:=27) (args:= #[af 1]) (w':=w3) TaB ?_;refine(fC 1 w3).mono ?_;exact Zbj):p:=h
theorem zd7.KaL(h:p:=by have h0:_=_:=hr.1;have h1:_=_:=hr.2.1;exact aq (v:=aH w3.heap.size 2 2) (w':=w3.alloc (.cells #[ag 2,af 5,au,ag 2,af 1,au] 44)) Taz ⟨ah w3 _,⟨_,rfl,aB.new w3 _ _⟩⟩):p:=h
theorem zd8.KaL(h:p:=by obtain⟨g0,h0,fN⟩:∃g:Nat,ρ (.tmp 50)=aH g 2 2/\aB w3 g 44 #[ag 2,af 0,au,ag 2,af 12,au]:=hr.1;obtain⟨g1,h1,uF⟩:∃g:Nat,ρ (.tmp 53)=aH g 2 2/\aB w3 g 44 #[ag 2,af 5,au,ag 2,af 1,au]:=hr.2.1;exact aq (v:=aH w3.heap.size 2 2) (w':=w3.alloc (.cells #[aH g0 2 2,aH g1 2 2] 38)) Taz ⟨ah w3 _,⟨w3.heap.size,g0,g1,rfl,aB.new w3 _ _,fN.later (ah _ _),uF.later (ah _ _)⟩⟩):p:=h
theorem zd9.KaL(h:p:=by have h0:_=_:=hr.1;obtain⟨g1,a1,b1,h1,uF,Jg,avS⟩:∃g a b:Nat,ρ (.tmp 54)=aH g 2 2/\aB w3 g 38 #[aH a 2 2,aH b 2 2]/\aB w3 a 44 #[ag 2,af 0,au,ag 2,af 12,au]/\aB w3 b 44 #[ag 2,af 5,au,ag 2,af 1,au]:=hr.2.1;have e1:=hc.func 26;refine bj (f:=26) (args:= #[.slice OA0 V2.length oc0,aH g1 2 2]) (w':=w3) Tas ?_;refine(V0 OA0 oc0 V2 g1 a1 b1 w3 (Q3.ae.later hL) HM0.ae HS0.ae uF Jg avS).mono ?_;exact Zbj):p:=h
theorem zfK.Kbm(h:p:=by have h0:_=_:=hr.1;have c0:=(K3.ae.later hL).cell 1;exact ZaR):p:=h
theorem zfL.Kbm(h:p:=by have e1:=hc.func 27;have e2:=hc.const (af 7);refine bj (f:=27) (args:= #[af 7]) (w':=w3) TaB ?_;refine(fC 7 w3).mono ?_;exact Zbj):p:=h
theorem zfM.Kbm(h:p:=by have h0:_=_:=hr.1;exact aq (v:=aH w3.heap.size 1 1) (w':=w3.alloc (.cells #[ag 2,af 7,au] 44)) Tar ⟨ah w3 _,⟨_,rfl,aB.new w3 _ _⟩⟩):p:=h
theorem zfN.Kbm(h:p:=by obtain⟨g0,h0,fN⟩:∃g:Nat,ρ (.tmp 70)=aH g 1 1/\aB w3 g 44 #[ag 2,af 7,au]:=hr.1;exact Zem):p:=h
theorem zfO.Kbm(h:p:=by have h0:_=_:=hr.1;obtain⟨g1,a1,h1,uF,Jg⟩:∃g a:Nat,ρ (.tmp 71)=aH g 1 1/\aB w3 g 38 #[aH a 1 1]/\aB w3 a 44 #[ag 2,af 7,au]:=hr.2.1;have e1:=hc.func 26;refine bj (f:=26) (args:= #[.slice OA1 V3.length oc1,aH g1 1 1]) (w':=w3) Tas ?_;refine(Na OA1 oc1 V3 g1 a1 w3 (K2.ae.later hL) HM1.ae xh.ae uF Jg).mono ?_;exact Zbj):p:=h
theorem zfP.Kbn(h:p:=by have h0:_=_:=hr.1;have c0:=(R3.ae.later hL).cell 1;exact ZaR):p:=h
theorem zfQ.Kbn(h:p:=by exact Zev):p:=h
theorem zfR.Kbn(h:p:=by have h0:_=_:=hr.1;exact aq (v:=aH w3.heap.size 1 1) (w':=w3.alloc (.cells #[ag 2,af 0,au] 44)) Tar ⟨ah w3 _,⟨_,rfl,aB.new w3 _ _⟩⟩):p:=h
theorem zfS.Kbn(h:p:=by obtain⟨g0,h0,fN⟩:∃g:Nat,ρ (.tmp 86)=aH g 1 1/\aB w3 g 44 #[ag 2,af 0,au]:=hr.1;exact Zem):p:=h
theorem zfT.Kbn(h:p:=by have h0:_=_:=hr.1;obtain⟨g1,a1,h1,uF,Jg⟩:∃g a:Nat,ρ (.tmp 87)=aH g 1 1/\aB w3 g 38 #[aH a 1 1]/\aB w3 a 44 #[ag 2,af 0,au]:=hr.2.1;have e1:=hc.func 26;refine bj (f:=26) (args:= #[.slice OA3 V5.length oc3,aH g1 1 1]) (w':=w3) Tas ?_;refine(Na OA3 oc3 V5 g1 a1 w3 (TQ.ae.later hL) HM3.ae HS3.ae uF Jg).mono ?_;exact Zbj):p:=h
theorem ziF.Kcu(h:p:=by
 have V1:=aa (sZ cc hq ajr aep HO.ae);clear hq b1;go_wp2_with fail;refine(aem rc V1.ae (by rw[HK.ae];exact ade)).mono ?_;rintro e4 w4 ⟨_,rfl,hB⟩;replace HO:=aa (HO.ae.later hB);replace Q3:=aa (Q3.ae.later hB);replace K1:=aa (K1.ae.later hB);replace K2:=aa (K2.ae.later hB);replace K3:=aa (K3.ae.later hB);replace HB:=aa (ai.then HB.ae hB);clear hB V1;go_wp2_with fail;have b3:=ah w4 (.cells #[az,az,af 0] 33);have R2:=aa (aB.new w4 33 #[az,az,af 0]);replace HB:=aa (ai.then HB.ae b3);replace HO:=aa (HO.ae.later b3);replace Q3:=aa (Q3.ae.later b3);replace K1:=aa (K1.ae.later b3);replace K2:=aa (K2.ae.later b3);replace K3:=aa (K3.ae.later b3);clear b3;generalize w4.alloc _=wz3 at*;generalize w4.heap.size=qc at*;refine(sX t3B R.XE Tab apd _).mono ?_;rintro e4 wa ⟨L,rfl,hq,b1⟩;replace HO:=aa (HO.ae.later b1);replace Q3:=aa (Q3.ae.later b1);replace K1:=aa (K1.ae.later b1);replace K2:=aa (K2.ae.later b1);replace K3:=aa (K3.ae.later b1);replace R2:=aa (R2.ae.later b1);replace HB:=aa (ai.then HB.ae b1);have V1:=aa (sZ cc hq ajs aeq HO.ae);clear hq b1;go_wp2_with fail;refine(Re rc V1.ae (by rw[HK.ae];exact adg)).mono ?_;rintro e4 w5 ⟨PA,hc3,OA3,oc3,V5,rfl,_,ho,he,hB⟩;replace HO:=aa (HO.ae.later hB);replace Q3:=aa (Q3.ae.later hB);replace K1:=aa (K1.ae.later hB);replace K2:=aa (K2.ae.later hB);replace K3:=aa (K3.ae.later hB);replace R2:=aa (R2.ae.later hB);replace HB:=aa (ai.then HB.ae hB);have TQ:=aa ho;have HM3:=aa he;have HS3:=aa (uV he Tab Tab);clear ho he hB V1;go_upto_region 6 with fail
 have b3:=ah w5 (.cells #[.slice PA QD.length hc3,.slice OA3 V5.length oc3,af 1] 33);have R3:=aa (aB.new w5 33 #[.slice PA QD.length hc3,.slice OA3 V5.length oc3,af 1]);replace HB:=aa (ai.then HB.ae b3);replace HO:=aa (HO.ae.later b3);replace Q3:=aa (Q3.ae.later b3);replace K1:=aa (K1.ae.later b3);replace K2:=aa (K2.ae.later b3);replace K3:=aa (K3.ae.later b3);replace R2:=aa (R2.ae.later b3);replace TQ:=aa (TQ.ae.later b3);clear b3;generalize w5.alloc _=W9 at*;generalize w5.heap.size=qd at*;refine bC 47 (wkV qa qb qd OA0 V2.length oc0 OA1 V3.length oc1 OA3 V5.length oc3) (WO _ _ _ _ _ _ _ _ _ _ _ _) Taa Taa Taa ?_ ?_
 ·simp only[take_succ_cons,take_zero];refine⟨Zaa,Zaa,Zaa,?_,?_,?_,?_,?_,?_,?_,?_,?_,?_,ZdZ,Zaa,ZgQ,ZgQ,ZdZ,Zaa,ZgR,?_,ZgR,ZdZ,Zaa,?_,?_,?_,?_,?_,?_,ZdZ,Zaa,ZgS,ZgS,ZdZ,Zaa,ZgT,ZgT,ZdZ,Zaa,?_,?_,?_,?_,?_,?_,ZdZ,trivial⟩
  ·intro ρ w3 hc hL hr;intro hg;have hg:ρ (.tmp 45)=.bool true:=hg;exact Zaj
  ·open zd1 in exact ZbS
  ·open zd2 in exact ZbS
  ·open zd3 in exact ZbS
  ·open zd4 in exact ZbS
  ·open zd5 in exact ZbS
  ·open zd6 in exact ZbS
  ·open zd7 in exact ZbS
  ·open zd8 in exact ZbS
  ·open zd9 in exact ZbS
  ·intro ρ w3 hc hL hr;intro hg;have hg:ρ (.tmp 61)=.bool true:=hg;refine⟨λ _=>?_,λ hn=>absurd hg hn⟩;have h0:_=_:=hr.1;have c0:=(K3.ae.later hL).cell 2;exact ZaR
  ·intro ρ w3 hc hL hr;intro hg;have hg:ρ (.tmp 66)=.bool true:=hg;exact Zaj
  ·open zfK in exact ZdH
  ·open zfL in exact ZdH
  ·open zfM in exact ZdH
  ·open zfN in exact ZdH
  ·open zfO in exact ZdH
  ·intro ρ w3 hc hL hr;intro hg;have hg:ρ (.tmp 82)=.bool true:=hg;exact Zaj
  ·open zfP in exact ZdI
  ·open zfQ in exact ZdI
  ·open zfR in exact ZdI
  ·open zfS in exact ZdI
  ·open zfT in exact ZdI
 intro W3 hL;simp only[Uab];rintro a0 - a1 - a2 - a3 - a4 - a5 - a6 - a7 - a8 - a9 - FA - F8 - a12 - a13 - a14 - a15 - a16 - a17 - a18 - a19 - a20 - a21 - a22 - a23 - a24 - a25 - a26 - a27 - a28 - a29 - a30 - a31 - a32 - a33 - a34 - a35 - a36 - a37 - a38 - a39 - a40 - a41 - a42 - a43 - a44 - a45 - _ rfl;simp only[bE,Act.put,Uac];have hb3:=ai.then HB.ae hL;clear hL;go_wp2_with fail;go_ret;exact⟨rfl,hb3⟩):p:=h
theorem oq (w:World)(hE:zH w):ar 10 #[] w λ e4 w'=>e4=.returned (.bool true)/\aj w w':=by
 have HE:=aa hE;clear hE;go_enter Tryz.func10,Tryz.ntmps10;go_wp2_with fail;refine(VM w).mono ?_;rintro e4 w1 ⟨CA,cc,RA,rc,rs,rfl,h1,h2,h3,b1⟩;have HO:=aa (U9 (HE.ae.later b1) h1 h2 h3);have HK:=aa h3;have HB:=aa b1;clear h1 h2 h3 b1;go_wp2_with fail;refine(sX t0B R.XC Tab apa _).mono ?_;rintro e4 wa ⟨L,rfl,hq,b1⟩;replace HO:=aa (HO.ae.later b1);replace HB:=aa (ai.then HB.ae b1);have V1:=aa (sZ cc hq ajp aen HO.ae);clear hq b1;go_wp2_with fail;refine(Re rc V1.ae (by rw[HK.ae];exact acY)).mono ?_;rintro e4 w2 ⟨HA0,hc0,OA0,oc0,V2,rfl,_,ho,he,hB⟩;replace HO:=aa (HO.ae.later hB);replace HB:=aa (ai.then HB.ae hB);have Q3:=aa ho;have HM0:=aa he;have HS0:=aa (uV he Tab Tab);clear ho he hB V1;go_wp2_with fail;have b3:=ah w2 (.cells #[.slice HA0 QB.length hc0,.slice OA0 V2.length oc0,af 2] 33);have K1:=aa (aB.new w2 33 #[.slice HA0 QB.length hc0,.slice OA0 V2.length oc0,af 2]);replace HB:=aa (ai.then HB.ae b3);replace HO:=aa (HO.ae.later b3);replace Q3:=aa (Q3.ae.later b3);clear b3;generalize w2.alloc _=wz1 at*;generalize w2.heap.size=qa at*;refine(sX t1B R.XD Tab apb _).mono ?_;rintro e4 wa ⟨L,rfl,hq,b1⟩;replace HO:=aa (HO.ae.later b1);replace Q3:=aa (Q3.ae.later b1);replace K1:=aa (K1.ae.later b1);replace HB:=aa (ai.then HB.ae b1);have V1:=aa (sZ cc hq ajq aeo HO.ae);clear hq b1;go_wp2_with fail;refine(Re rc V1.ae (by rw[HK.ae];exact ada)).mono ?_;rintro e4 w3 ⟨O7,hc1,OA1,oc1,V3,rfl,_,ho,he,hB⟩;replace HO:=aa (HO.ae.later hB);replace Q3:=aa (Q3.ae.later hB)
 replace K1:=aa (K1.ae.later hB);replace HB:=aa (ai.then HB.ae hB);have K2:=aa ho;have HM1:=aa he;have xh:=aa (uV he Tab Tab);clear ho he hB V1;go_wp2_with fail;have b3:=ah w3 (.cells #[.slice O7 QC.length hc1,.slice OA1 V3.length oc1,af 1] 33);have K3:=aa (aB.new w3 33 #[.slice O7 QC.length hc1,.slice OA1 V3.length oc1,af 1]);replace HB:=aa (ai.then HB.ae b3);replace HO:=aa (HO.ae.later b3);replace Q3:=aa (Q3.ae.later b3);replace K1:=aa (K1.ae.later b3);replace K2:=aa (K2.ae.later b3);clear b3;generalize w3.alloc _=wz2 at*;generalize w3.heap.size=qb at*;refine(sX t2B R.L6 Tab apc _).mono ?_;rintro e4 wa ⟨L,rfl,hq,b1⟩;replace HO:=aa (HO.ae.later b1);open ziF in exact ZhF
def jM (r:Except Int (List aX×List (List Val)))(B:Nat)(w:World)(v:Value):Prop:=match r with
 | .error er=>er≠0/\v=.tuple #[.agg #[az,az,af 0],af er]
 | .ok (hd,la)=>∃HA hc OA oc out,v=.tuple #[.agg #[.slice HA hd.length hc,.slice OA (List.length out) oc,af la.length],af 0]/\aI aS 113 2 w B (.slice HA hd.length hc) hd/\aI ck 38 1 w B (.slice OA out.length oc) out/\(∀r∈out,bM w r.A r.l)/\out.map (·.l)=la
variable{r:Except Int (List aX×List (List Val))}
theorem jM.later{w:World} (h:jM r B w v)(hb:aj w w'):jM r B w' v:=by
 unfold jM at*;split at h
 ·exact h
 ·obtain⟨HA,hc,OA,oc,out,h1,h2,h3,h4,h5⟩:=h;exact⟨HA,hc,OA,oc,out,h1,h2.later hb,h3.later hb,λ r hr=>(h4 r hr).later hb,h5⟩
variable{cs:Array Value}
theorem jM.V6{g:Nat} {w:World}   (h:jM r B w v)(hk:aB w g t cs)(KK:t≠113)(Kx:t≠38)(Lw:t≠44)(hg:w.grownBy w' (some g)):jM r B w' v:=by
 unfold jM at*;split at h
 ·exact h
 ·obtain⟨HA,hc,OA,oc,out,h1,h2,h3,h4,h5⟩:=h;refine⟨HA,hc,OA,oc,out,h1,h2.grown hg (h2.other hk KK),h3.grown hg (h3.other hk Kx),λ r hr=>(h4 r hr).keep hg.size λ b cur k1=>hg.block b k1.lt λ e=>?_,h5⟩;injection e with e;subst e;have:=k1.symm.trans hk;injection this with this;injection this with _ this _;exact absurd this.symm Lw
theorem jM.grown{g:Nat} {w:World}  (h:jM r B w v)(hk:aB w g 33 cs)(hg:w.grownBy w' (some g)):jM r B w' v:=h.V6 hk Tab Tab Tab hg
variable{ev:Value}
theorem jM.ok_{w:World}  (h:jM (.ok (hd,la)) B w (.tuple #[.agg cs,ev])):∃HA hc OA oc out,cs= #[.slice HA hd.length hc,.slice OA (List.length out) oc,af out.length]/\ev=af 0/\RC w w.heap.size HA hd/\RR w w.heap.size OA out/\out.map (·.l)=la:=by
 obtain⟨HA,hc,OA,oc,out,h1,h2,h3,h4,h5⟩:=h;injection h1 with h1;have e1:=congrArg (λ a:Array Value=>a[0]?) h1;have e2:=congrArg (λ a:Array Value=>a[1]?) h1;simp at e1 e2;obtain⟨A,c,e3,h6⟩:=AG h2;injection e3 with e3 _ _;obtain⟨A',c',e4,h7⟩:=MW h3 λ r hr=>(h4 r hr).rv
 injection e4 with e4 _ _;subst e3 e4;refine⟨HA,hc,OA,oc,out,?_,e2,h6,h7,h5⟩;rw[e1,<- h5,length_map]
theorem jM.aqn{w:World}  (h:jM (.error er) B w (.tuple #[.agg cs,ev])):er≠0/\cs= #[az,az,af 0]/\ev=af er:=by obtain⟨h0,h1⟩:=h;injection h1 with h1;have e1:=congrArg (λ a:Array Value=>a[0]?) h1;have e2:=congrArg (λ a:Array Value=>a[1]?) h1;simp at e1 e2;exact⟨h0,e1,e2⟩
variable{B':Nat}
theorem jM.down{w:World} (h:jM r B w v)(hB:B'<=B):jM r B' w v:=by
 unfold jM at*;split at h
 ·exact h
 ·obtain⟨HA,hc,OA,oc,out,h1,h2,h3,h4,h5⟩:=h;exact⟨HA,hc,OA,oc,out,h1,h2.down hB,h3.down hB,h4,h5⟩
theorem jM.tri{w:World} (h:jM r B w v):∃(A1:Option Addr) (n1 c1:Nat) (A2:Option Addr) (n2 c2:Nat) (k:Int) (e:Value),v=.tuple #[.agg #[.slice A1 n1 c1,.slice A2 n2 c2,af k],e]:=by
 unfold jM at h;split at h
 ·exact⟨_,_,_,_,_,_,_,_,h.2⟩
 ·obtain⟨HA,hc,OA,oc,out,h1,_⟩:=h;exact⟨_,_,_,_,_,_,_,_,h1⟩
theorem Nb{w:World}      (rc:Nat) (h:JD w q L CA cc cols RA rows):
  ar 11 #[mR q L,.slice CA cols.length cc,.slice RA rows.length rc] w λ e w'=>∃v,e=.returned v/\jM (jF q cols (rows.map (·.l))) w.heap.size w' v/\aj w w':=by
 refine(JF q L CA cc cols RA rc rows w h).mono ?_;rintro e w1 ⟨hb,hk⟩
 cases hr:jF q cols (rows.map (·.l))with
 | error er=>rw[hr] at hk;exact⟨_,hk.2,⟨hk.1,rfl⟩,hb⟩
 | ok x=>
   obtain⟨hd,la⟩:=x;rw[hr] at hk;obtain⟨HA,hc,ov,out,rfl,h1,h2,h3,h4⟩:=hk;obtain⟨OA,oc,rfl,_⟩:=MW h2 λ r hr=>(h3 r hr).rv
   exact⟨_,rfl,⟨HA,hc,OA,oc,out,rfl,h1,h2,h3,h4⟩,hb⟩
def z33:Array Value:= #[az,az,af 0]
structure qz (W:World) (rows:List (List Val)) (r:Except Int (List aX×List (List Val))) (s3 s4 s5 s6 s7 s8 s9:Option Value) (w:World):Prop where
 low:aj W w
 own:s4=none->∀x,s3=some x->∃A c rs,x=.slice A (List.length rs) c/\RR w w.heap.size A rs/\rs.map (·.l)=rows
 run:∀x,s4=some x->jM r W.heap.size w x
 e4:s4.isSome=true->s3.isSome=true
 e5:∀x,s5=some x->s4=some x
 e6:∀x,s6=some x->∃y,s4=some (.tuple #[x,y])
 e7:∀x,s7=some x->∃y,s4=some (.tuple #[y,x])
 e9:s9.isSome=true->s8.isSome=true/\s4.isSome=true
 al:∀x,s8=some x->∃g,x=aw g/\W.heap.size<=g/\(s9=none->aB w g 33 z33)/\(s9.isSome=true->∃cs y,s4=some (.tuple #[.agg cs,y])/\aB w g 33 cs)
section
variable {W w w':World} {rows:List (List Val)} {r:Except Int (List aX×List (List Val))} {s3 s4 s5 s6 s7 s8 s9:Option Value}
theorem qz.start (W:World)(rows:List (List Val))(r:Except Int (List aX×List (List Val))):qz W rows r none none none none none none none W:=
 ⟨Below.refl _ _,λ _ x h=> Tae,λ x h=> Tae,λ h=> Tae,λ x h=> Tae,λ x h=> Tae,λ x h=> Tae,λ h=> Tae,λ x h=> Tae⟩
theorem qz.later (h:qz W rows r s3 s4 s5 s6 s7 s8 s9 w)(hb:aj w w'):qz W rows r s3 s4 s5 s6 s7 s8 s9 w':=
 ⟨Below.trans h.low (hb.mono h.low.size),λ h4 x hx=>by obtain⟨A,c,rs,k1,k2,k3⟩:=h.own h4 x hx;exact⟨A,c,rs,k1,k2.later hb,k3⟩,λ x hx=>(h.run x hx).later hb,h.e4,h.e5,h.e6,h.e7,h.e9,λ x hx=>by
   obtain⟨g,k1,k2,k3,k4⟩:=h.al x hx
   exact⟨g,k1,k2,λ h9=>(k3 h9).later hb,λ h9=>by obtain⟨cs,y,j1,j2⟩:=k4 h9;exact⟨cs,y,j1,j2.later hb⟩⟩⟩
theorem qz.aqo (h:qz W rows r none s4 s5 s6 s7 s8 s9 w) {v:Value}(hb:aj w w')(ho:∃A c rs,v=.slice A (List.length rs) c/\RR w' w'.heap.size A rs/\rs.map (·.l)=rows):qz W rows r (some v) s4 s5 s6 s7 s8 s9 w':=by have k:=h.later hb;exact⟨k.low,λ _ x hx=>by injection hx with hx;rw[<- hx];exact ho,k.run,λ _=>rfl,k.e5,k.e6,k.e7,k.e9,k.al⟩
theorem qz.no9 (h:qz W rows r s3 none s5 s6 s7 s8 s9 w):s5=none/\s6=none/\s7=none/\s9=none:=by
 refine⟨?_,?_,?_,?_⟩
 ·cases h5:s5 with
  | none=>rfl
  | some x=>have:=h.e5 x h5;cases this
 ·cases h5:s6 with
  | none=>rfl
  | some x=>obtain⟨y,hy⟩:=h.e6 x h5;cases hy
 ·cases h5:s7 with
  | none=>rfl
  | some x=>obtain⟨y,hy⟩:=h.e7 x h5;cases hy
 ·cases h5:s9 with
  | none=>rfl
  | some x=>have:=(h.e9 (by rw[h5];rfl)).2;cases this
theorem qz.aqp (h:qz W rows r s3 none s5 s6 s7 s8 s9 w) {v:Value}(hb:aj w w')(h3:s3.isSome=true)(hr:jM r W.heap.size w' v):qz W rows r s3 (some v) s5 s6 s7 s8 s9 w':=by obtain⟨rfl,rfl,rfl,rfl⟩:=h.no9;have k:=h.later hb;refine⟨k.low,λ e=> Ta9,λ x hx=>(by injection hx with hx;rw[<- hx];exact hr),λ _=>h3,λ x hx=>(by cases hx),λ x hx=>(by cases hx),λ x hx=>(by cases hx),λ e=> Ta9,λ x hx=>?_⟩;obtain⟨g,k1,k2,k3,_⟩:=k.al x hx;exact⟨g,k1,k2,k3,λ e=> Ta9⟩
theorem qz.aqq (h:qz W rows r s3 s4 none s6 s7 s8 s9 w) {v:Value}(h4:s4=some v):qz W rows r s3 s4 (some v) s6 s7 s8 s9 w:=
 ⟨h.low,h.own,h.run,h.e4,λ x hx=>by injection hx with hx;rw[<- hx];exact h4,h.e6,h.e7,h.e9,h.al⟩
theorem qz.aqr (h:qz W rows r s3 s4 s5 none s7 s8 s9 w) {v y:Value}(h4:s4=some (.tuple #[v,y])):qz W rows r s3 s4 s5 (some v) s7 s8 s9 w:=
 ⟨h.low,h.own,h.run,h.e4,h.e5,λ x hx=>by injection hx with hx;rw[<- hx];exact⟨y,h4⟩,h.e7,h.e9,h.al⟩
theorem qz.aqs (h:qz W rows r s3 s4 s5 s6 none s8 s9 w) {v y:Value}(h4:s4=some (.tuple #[y,v])):qz W rows r s3 s4 s5 s6 (some v) s8 s9 w:=
 ⟨h.low,h.own,h.run,h.e4,h.e5,h.e6,λ x hx=>by injection hx with hx;rw[<- hx];exact⟨y,h4⟩,h.e9,h.al⟩
theorem qz.ux (h:qz W rows r s3 s4 s5 s6 s7 none s9 w):qz W rows r s3 s4 s5 s6 s7 (some (aw w.heap.size)) s9 (w.alloc (.cells z33 33)):=by
 have h9:s9=none:=by
  cases h5:s9 with
  | none=>rfl
  | some x=>have:=(h.e9 (by rw[h5];rfl)).1;cases this
 subst h9;have k:=h.later (ah w (.cells z33 33));exact⟨k.low,k.own,k.run,k.e4,k.e5,k.e6,k.e7,λ e=> Ta9,λ x hx=>by injection hx with hx;exact⟨w.heap.size,hx.symm,h.low.size,λ _=>aB.new w _ _,λ e=> Ta9⟩⟩
theorem qz.aqt (h:qz W rows r s3 s4 s5 s6 s7 s8 none w) {g:Nat} {x y c e:Value}(h8:s8=some (aw g))(h4:s4=some (.tuple #[.agg #[x,y,c],e]))(u:Value):
  qz W rows r s3 s4 s5 s6 s7 s8 (some u) (((w.setCell ⟨g,0,none⟩ x).setCell ⟨g,1,none⟩ y).setCell ⟨g,2,none⟩ c):=by obtain⟨g',k1,k2,k3,_⟩:=h.al _ h8;injection k1 with k1;injection k1 with k1;injection k1 with k1 _ _;subst k1;have hk:=k3 rfl;have hg:w.grownBy (((w.setCell ⟨g,0,none⟩ x).setCell ⟨g,1,none⟩ y).setCell ⟨g,2,none⟩ c) (some g):=dU (dU (dU (pM (Below.refl _ _)) 0 x) 1 y) 2 c;have hn:((w.setCell ⟨g,0,none⟩ x).setCell ⟨g,1,none⟩ y).setCell ⟨g,2,none⟩ c=((w.setCell ⟨g,0,none⟩ x).setCell ⟨g,1,none⟩ y).setCell ⟨g,2,none⟩ c:=rfl;refine⟨((h.low.setCell (p:=⟨g,0,none⟩) k2 x).setCell (p:=⟨g,1,none⟩) k2 y).setCell (p:=⟨g,2,none⟩) k2 c,λ e4=>(by rw[h4] at e4;cases e4),λ z hz=>(h.run z hz).grown hk hg,h.e4,h.e5,h.e6,h.e7,λ _=>⟨by rw[h8];rfl,by rw[h4];rfl⟩,λ z hz=>?_⟩;rw[h8] at hz;injection hz with hz;exact⟨g,hz.symm,k2,λ e=> Ta9,λ _=>⟨#[x,y,c],e,h4,((hk.aT 0 x).aT 1 y).aT 2 c⟩⟩
theorem qz.cell (h:qz W rows r s3 s4 s5 s6 s7 s8 none w) {v:Value}(h8:s8=some v):∃g,v=aw g/\aB w g 33 z33:=by obtain⟨g,k1,k2,k3,_⟩:=h.al _ h8;exact⟨g,k1,k3 rfl⟩
theorem qz.fin {v4 v5 v6 v7 v8 v9:Value}(h:qz W rows r s3 (some v4) (some v5) (some v6) (some v7) (some v8) (some v9) w):∃g cs ev,v4=.tuple #[.agg cs,ev]/\v5=v4/\v6=.agg cs/\v7=ev/\v8=aw g/\W.heap.size<=g/\aB w g 33 cs/\jM r W.heap.size w (.tuple #[.agg cs,ev])/\aj W w:=by obtain⟨g,k1,k2,_,k4⟩:=h.al _ rfl;obtain⟨cs,y,j1,j2⟩:=k4 rfl;injection j1 with j1;have e5:=h.e5 _ rfl;injection e5 with e5;obtain⟨y6,e6⟩:=h.e6 _ rfl;injection e6 with e6;obtain⟨y7,e7⟩:=h.e7 _ rfl;injection e7 with e7;have h6:=j1.symm.trans e6;have h7:=j1.symm.trans e7;injection h6 with h6;injection h7 with h7;have h6:=congrArg (λ a:Array Value=>a[0]?) h6;have h7:=congrArg (λ a:Array Value=>a[1]?) h7;simp at h6 h7;exact⟨g,cs,y,j1,e5.symm,h6.symm,h7.symm,k1,k2,j2,by rw[<- j1];exact h.run _ rfl,h.low⟩
end
def kH (W:World)(rows:List (List Val))(r:Except Int (List aX×List (List Val)))(σ:Nat->Option Value)(w:World):Prop:=qz W rows r (σ 3) (σ 4) (σ 5) (σ 6) (σ 7) (σ 8) (σ 9) w
def rgU (q:Qy)(L:QL)(CA:Option Addr)(cc:Nat)(cols:List aX)(RA:Option Addr)(rc:Nat)(rows:List aW):Nat->Value:=λ i=>if i=0 then mR q L else if i=1 then .slice CA cols.length cc else if i=2 then .slice RA rows.length rc else undef
variable{P:Program}{ρ:Operand->Value}
theorem GZ{o:Oper}  {w:World} {T:Value->World->Prop}(h:(execOp ρ o).run P w=.ok .skip w')(ht:T undef w'):xi P o ρ w T:=by unfold xi;rw[h];exact ht
theorem V7{w:World}    (rc:Nat)(h:CR w CA cols RA rows):
  ar 12 #[.slice RA rows.length rc] w λ e w'=>∃v,e=.returned v/\(∃A c rs,v=.slice A (List.length rs) c/\RR w' w'.heap.size A rs/\rs.map (·.l)=rows.map (·.l))/\aj w w':=by refine(aco rows RA rc w (by have:=h.rn;omega) (λ r hr=>by have:=(h.each r hr).1;omega) h.rr).mono ?_;rintro e w1 ⟨v,cl,rfl,h1,h2,h3,h4⟩;obtain⟨A,c,rfl,h5⟩:=SU h1 h2;exact⟨_,rfl,⟨A,c,cl,rfl,h5,h3⟩,h4⟩
variable{RB:Option Addr}
theorem CR.same{w:World}    (h:CR w CA cols RA rows)(hr:RR w w.heap.size RB rs)(he:rs.map (·.l)=rows.map (·.l)):CR w CA cols RB rs:=by
 refine⟨h.env,h.cr,h.cl,hr,?_,λ r hm=>?_⟩
 ·have:=congrArg List.length he;simp only[length_map] at this;rw[this];exact h.rn
 ·have hx:r.l∈rows.map (·.l):=by rw[<- he];exact List.mem_map.2 ⟨r,hm,rfl⟩
  obtain⟨r0,yr,e0⟩:=List.mem_map.1 hx;rw[<- e0];exact h.each r0 yr
end Go.Proofs.YtndgjggokjickaaGreatDoor
