/- Parts of the proof. -/
import Derived.Test.YtndgjggokjickaaGreatDoorXS10
namespace Go.Proofs.YtndgjggokjickaaGreatDoor
variable{p:Prop}
set_option maxHeartbeats 90000000
set_option maxRecDepth 100000
open Go.ChangeShapes Go.WideShapes Go.ChangeAt Go.RowKit Go.Shelf List
set_option linter.unusedVariables false
set_option linter.unusedSimpArgs false
def jL (q:Qy):Prop:=1 < q.cK.length\/1 < q.ft.length\/1 < q.lim.length\/(q.lim.length=1/\q.lim.getD 0 0 < 0)
theorem zcv.Kat(h:p:=by
 simp only[bL,fA,Tryz.f28,Option.getD_some] at hO ⊢;have HBE:=aa hO;clear hO;refine wp_seq_k λ K hK=>?_
 have DY:=aa hK;clear hK;by_cases t1:1 < q.cK.length
 ·have t1':(1:Int)<((q.cK.length:Nat):Int):=by omega
  go_wp2_with fail;exact HE.ae _ (.inl t1) ⟨rfl,rfl,rfl⟩
 ·have t1':¬(1:Int)<((q.cK.length:Nat):Int):=by omega
  by_cases t2:1 < q.ft.length
  ·have t2':(1:Int)<((q.ft.length:Nat):Int):=by omega
   go_wp2_with fail;exact HE.ae _ (.inr (.inl t2)) ⟨rfl,rfl,rfl⟩
  ·have t2':¬(1:Int)<((q.ft.length:Nat):Int):=by omega
   cases pX:q.lim with
   | nil=>
     rw[pX] at c7;have HN:=aa (show¬jL q from λ h=>by
      unfold jL at h
      rw[pX] at h
      rcases h with h | h | h | h
      ·exact t1 h
      ·exact t2 h
      ·simp at h
      ·simp at h)
     clear pX SZ t1 t2;exact Zgt
   | cons l0 ls=>
     rw[pX] at c7
     cases hls:ls with
     | nil=>
       subst hls
       have hcell:∃b off,L.l.A=some ⟨b,off,none⟩/\w.cell? ⟨b,off,none⟩=some (af l0):=by
        rcases SZ with h |⟨b,off,h1,_,h3⟩
        ·rw[pX] at h;cases h
        ·exact⟨b,off,h1,h3 0 l0 (by rw[pX];rfl)⟩
       obtain⟨b,off,hA,hc⟩:=hcell;rw[hA] at c7;by_cases t4:l0 < 0
       ·have HB:=aa (show jL q from .inr (.inr (.inr ⟨by rw[pX];rfl,by rw[pX];exact t4⟩)));clear pX SZ hA t1 t2;go_wp2_with fail;exact HE.ae _ HB.ae ⟨rfl,rfl,rfl⟩
       ·have HN:=aa (show¬jL q from λ h=>by
         unfold jL at h
         rw[pX] at h
         rcases h with h | h | h | h
         ·exact t1 h
         ·exact t2 h
         ·simp at h
         ·exact t4 h.2)
        clear pX SZ hA t1 t2;exact Zgt
     | cons l1 ls2=>
       subst hls;have t3:(1:Int)<(((l0::l1::ls2).length:Nat):Int):=by simp only[length_cons];omega
       have HB:=aa (show jL q from .inr (.inr (.inl (by rw[pX];simp))));generalize (l0::l1::ls2).length=n3 at*;clear pX SZ t1 t2;go_wp2_with fail;exact HE.ae _ HB.ae ⟨rfl,rfl,rfl⟩):p:=h
theorem acF (g1 g2 g4 g5 gp:Nat)(q:Qy)(L:QL)(T:Array Value)(hT:T.size=252)(h2:T.getD 2 undef=aw g2)(h4:T.getD 4 undef=aw g4)(h5:T.getD 5 undef=aw g5)(w:World)(Q:Exit->Act->World->Prop)
  (hw:L.w.n=q.cK.length) (hh:L.h.n=q.ft.length) (hl:L.l.n=q.lim.length) (SZ:Ui w w.heap.size L.l.A q.lim) (hb2:aC w g2 27 (fW q L)) (b4:aC w g4 72 #[.pointer none]) (b5:aC w g5 34 #[af 0]) (vg:g4≠g5)
  (hE:∀a,jL q->qG a [] g4 g5->Q .ret a (jd w g4 g5 1))
  (hO:¬jL q->∀z39 z40 z41 z42 z43 z44 z45 z46 z47 z48 z49 z50 z51 z52 z53 z54 z55 z56 z57 z58 z59 z60 z61 z62 z63 z64 z65 z66 z67:Value,(fA bL 3).wp Tryz.prog Q { tmps:=(((((((((((((((((((((((((((((T.setIfInBounds 39 z39).setIfInBounds 40 z40).setIfInBounds 41 z41).setIfInBounds 42 z42).setIfInBounds 43 z43).setIfInBounds 44 z44).setIfInBounds 45 z45).setIfInBounds 46 z46).setIfInBounds 47 z47).setIfInBounds 48 z48).setIfInBounds 49 z49).setIfInBounds 50 z50).setIfInBounds 51 z51).setIfInBounds 52 z52).setIfInBounds 53 z53).setIfInBounds 54 z54).setIfInBounds 55 z55).setIfInBounds 56 z56).setIfInBounds 57 z57).setIfInBounds 58 z58).setIfInBounds 59 z59).setIfInBounds 60 z60).setIfInBounds 61 z61).setIfInBounds 62 z62).setIfInBounds 63 z63).setIfInBounds 64 z64).setIfInBounds 65 z65).setIfInBounds 66 z66).setIfInBounds 67 z67),defers:=[] } w):
  (fA bL 2).wp Tryz.prog Q { tmps:=T,defers:=[] } w:=by obtain⟨f,rfl⟩:=kS T hT;have h2:f 2=_:=h2;have h4:f 4=_:=h4;have h5:f 5=_:=h5;simp only[bZ,Uac] at hO;simp only[bZ,h2,h4,h5] at hO ⊢;clear h2 h4 h5;clear h2 h4 h5 hT;have HE:=aa hE;unfold fW at hb2;have c3:=hb2.cell 3;have Kx:=hb2.cell 5;have c7:=hb2.cell 7;simp only[Uaa] at c3 Kx c7;rw[hw] at c3;rw[hh] at Kx;rw[hl] at c7;clear hw hh hl hE hb2;open zcv in exact ZaM
variable{α:Type}{f:α->List Value}{e:TypeId}{size B:Nat}{w:World}{v:Value}{l:List α}
theorem Nl{base:Nat}   (h:aI f e size w base v l)(hB:B<=base):aI f e size w B v l:=by
 refine⟨h.1,?_⟩;rcases h.2 with h |⟨g,cap,cur,h1,h2,h3⟩
 ·exact .inl h
 ·exact .inr ⟨g,cap,cur,h1,Nat.le_trans hB h2,h3⟩
def PlB (B:Nat)(q:Qy)(L:QL)(CA:Option Addr)(cc:Nat)(cols:List aZ)(w:World)(g:Nat):Prop:=∃hv:Value,aC w g 81 #[.slice L.i.A L.i.n L.i.c,.string q.bZ,.bool q.only,.slice L.w.A L.w.n L.w.c,.slice L.g.A L.g.n L.g.c,.slice L.h.A L.h.n L.h.c,.slice L.o.A L.o.n L.o.c,.slice L.l.A L.l.n L.l.c,.slice CA cols.length cc,az,az,.bool q.aK,hv,az,az,az]/\aI aU 113 2 w B hv cols/\hv.ownBlock≠some g/\B<=g
variable{q:Qy}{L:QL}{CA:Option Addr}{cc:Nat}{cols:List aZ}{w':World}
theorem PlB.later{g:Nat}(h:PlB B q L CA cc cols w g)(hb:aj w w'):PlB B q L CA cc cols w' g:=by obtain⟨hv,h1,h2,h3⟩:=h;exact⟨hv,h1.later hb,h2.later hb,h3⟩
def aid (q:Qy)(L:QL)(CA:Option Addr)(cc:Nat)(cols:List aZ)(B:Nat):Nat->World->Value->Prop
 | 0,_,v=>v=.agg #[.slice L.i.A L.i.n L.i.c,.string q.bZ,.bool q.only,.slice L.w.A L.w.n L.w.c,.slice L.g.A L.g.n L.g.c,.slice L.h.A L.h.n L.h.c,.slice L.o.A L.o.n L.o.c,.slice L.l.A L.l.n L.l.c]
 | 1,_,v=>v=.slice CA cols.length cc
 | 2,_,v=>v=.agg #[.slice L.i.A L.i.n L.i.c,.string q.bZ,.bool q.only,.slice L.w.A L.w.n L.w.c,.slice L.g.A L.g.n L.g.c,.slice L.h.A L.h.n L.h.c,.slice L.o.A L.o.n L.o.c,.slice L.l.A L.l.n L.l.c]
 | 3,_,v=>v=.bool q.aK
 | 4,_,v=>v=.slice CA cols.length cc
 | 5,w,v=>∃hv:Value,v=hv/\aI aU 113 2 w B hv cols
 | 6,w,v=>∃hv:Value,v=.agg #[.slice L.i.A L.i.n L.i.c,.string q.bZ,.bool q.only,.slice L.w.A L.w.n L.w.c,.slice L.g.A L.g.n L.g.c,.slice L.h.A L.h.n L.h.c,.slice L.o.A L.o.n L.o.c,.slice L.l.A L.l.n L.l.c,.slice CA cols.length cc,az,az,.bool q.aK,hv,az,az,az]/\aI aU 113 2 w B hv cols
 | 7,w,v=>∃g:Nat,v=aw g/\PlB B q L CA cc cols w g
 | _,_,_=>False
theorem Rg (q:Qy)(L:QL)(CA:Option Addr)(cc:Nat)(cols:List aZ)(B:Nat):∀i w w' v,aid q L CA cc cols B i w v->ai w w'->aid q L CA cc cols B i w' v:=by
 intro i w w' v h hl
 match i with
 | 0 | 1 | 2 | 3 | 4=>exact h
 | 5=>exact ZgW
 | 6=>exact ZgW
 | 7=>exact ZgW
 | n+8=>exact h
theorem acG (q:Qy)(L:QL)(CA:Option Addr)(cc:Nat)(cols:List aZ)(g2:Nat)(T:Array Value)(hT:T.size=252)(h1:T.getD 1 undef=.slice CA cols.length cc)(h2:T.getD 2 undef=aw g2)(w:World)(Q:Exit->Act->World->Prop)
  (Ki:rD w q L) (bh:q.Ok) (Xm:RC w w.heap.size CA cols) (cg:cols.length<=1000) (hb2:aC w g2 27 (fW q L))
  (Kx:∀gp W z31 z32 z33 z34 z35 z36 z37 z38,PlB w.heap.size q L CA cc cols W gp->aj w W->(fA bL 2).wp Tryz.prog Q { tmps:=(((((((((T.setIfInBounds 31 z31).setIfInBounds 32 z32).setIfInBounds 33 z33).setIfInBounds 34 z34).setIfInBounds 35 z35).setIfInBounds 36 z36).setIfInBounds 37 z37).setIfInBounds 38 z38).setIfInBounds 6 (aw gp)),defers:=[] } W):
  (fA bL 1).wp Tryz.prog Q { tmps:=T,defers:=[] } w:=by
 obtain⟨f,rfl⟩:=kS T hT;have h1:f 1=_:=h1;have h2:f 2=_:=h2;simp only[bZ,Uac] at Kx;simp only[bZ,h1,h2] at Kx ⊢;clear h1 h2;clear h1 h2 hT;have HQY:=aa Ki;have je:=aa bh;have HRC:=aa Xm;have Vs:=aa cg;have Gs:=aa hb2;unfold fW at Gs;simp only[bL,fA,Tryz.f28,Option.getD_some] at Kx ⊢;have HO:=aa Kx;clear Kx Ki bh Xm cg hb2;obtain⟨B,hO⟩:∃B,B=w.heap.size:=⟨_,rfl⟩;have HBE:=aa hO;clear hO;refine wp_seq_k λ K hK=>?_
 have DY:=aa hK;clear hK;refine bC 8 (aid q L CA cc cols B) (Rg _ _ _ _ _ _) Vx Vx Vx ?_ ?_
 ·simp only[take_succ_cons,take_zero];refine⟨Zcf,Zab,Zcf,?_,Zab,?_,?_,?_,trivial⟩
  ·intro ρ W4 hc hL hr;have h0:_=_:=hr.1;have e1:=hc.func 54;refine bD (f:=54) (args:= #[tJ q L]) (w':=W4) (by unfold tJ;simp[go_sem,e1,h0];done) ?_;refine(Lk q L W4 (HQY.ae.later hL) je.ae).mono ?_;exact Zbs
  ·intro ρ W4 hc hL hr;have h0:_=_:=hr.1;have e1:=hc.func 55;refine bD (f:=55) (args:= #[.slice CA cols.length cc]) (w':=W4) TaA ?_;refine(IZ CA cc cols W4 (HRC.ae.later hL) Vs.ae).mono ?_;rintro e4 w4 ⟨v4,rfl,ho4,b4⟩;exact⟨_,rfl,b4,_,rfl,Nl ho4 (HBE.ae▸hL.size)⟩
  ·intro ρ W4 hc hL hr;have h0:_=_:=hr.1;have h1:_=_:=hr.2.1;have h2:_=_:=hr.2.2.1;obtain⟨hv3,h3,aoY⟩:∃hv:Value,ρ (.tmp 36)=hv/\aI aU 113 2 W4 B hv cols:=hr.2.2.2.1;obtain⟨HA,hc9,hh,_⟩:=aoY.reads;subst hh;exact aq (v:=.agg #[.slice L.i.A L.i.n L.i.c,.string q.bZ,.bool q.only,.slice L.w.A L.w.n L.w.c,.slice L.g.A L.g.n L.g.c,.slice L.h.A L.h.n L.h.c,.slice L.o.A L.o.n L.o.c,.slice L.l.A L.l.n L.l.c,.slice CA cols.length cc,az,az,.bool q.aK,(Value.slice HA cols.length hc9),az,az,az]) (w':=W4) (by simp[go_sem,h0,h1,h2,h3];done) ⟨ai.refl _,_,rfl,aoY⟩
  ·intro ρ W4 hc hL hr;obtain⟨hv0,h0,fQ⟩:∃hv:Value,ρ (.tmp 37)=.agg #[.slice L.i.A L.i.n L.i.c,.string q.bZ,.bool q.only,.slice L.w.A L.w.n L.w.c,.slice L.g.A L.g.n L.g.c,.slice L.h.A L.h.n L.h.c,.slice L.o.A L.o.n L.o.c,.slice L.l.A L.l.n L.l.c,.slice CA cols.length cc,az,az,.bool q.aK,hv,az,az,az]/\aI aU 113 2 W4 B hv cols:=hr.1;refine aq (v:=aw W4.heap.size) (w':=W4.alloc (.cells #[.slice L.i.A L.i.n L.i.c,.string q.bZ,.bool q.only,.slice L.w.A L.w.n L.w.c,.slice L.g.A L.g.n L.g.c,.slice L.h.A L.h.n L.h.c,.slice L.o.A L.o.n L.o.c,.slice L.l.A L.l.n L.l.c,.slice CA cols.length cc,az,az,.bool q.aK,hv0,az,az,az] 81)) Taq ⟨ah W4 _,_,rfl,?_⟩;exact⟨hv0,aC.new W4 _ _,fQ.later (ah W4 _),λ e=>(by have:=(fQ.lt e).1;omega),HBE.ae▸hL.size⟩
 intro W3 hL;simp only[Uab];rintro a0 - a1 - a2 - a3 - a4 - a5 - a6 - a7 ⟨g_7,rfl,Vn⟩;simp only[bF,Act.put,Uac];have auF:=aa hL;have qH:=aa Vn;clear Vn hL;go_wp2_with fail;have hp:=qH.ae;rw[HBE.ae] at hp;exact DY.ae _ _ (HO.ae _ _ _ _ _ _ _ _ _ _ hp auF.ae)
theorem L3 (q:Qy)(L:QL)(T:Array Value)(hT:T.size=252)(h0:T.getD 0 undef=tJ q L)(w:World)(Q:Exit->Act->World->Prop)
  (hO:∀W g2 g4 g5 z2 z4 z5,z2=aw g2->z4=aw g4->z5=aw g5->aC W g2 27 (fW q L)->aC W g4 72 #[.pointer none]->aC W g5 34 #[af 0]->aj w W->w.heap.size<=g2/\g2 < g4/\g4 < g5->(fA bL 1).wp Tryz.prog Q { tmps:=((T.setIfInBounds 2 z2).setIfInBounds 4 z4).setIfInBounds 5 z5,defers:=[] } W):
  bL.wp Tryz.prog Q { tmps:=T,defers:=[] } w:=by
 obtain⟨f,rfl⟩:=kS T hT;have h0:f 0=_:=h0;have bb:=ah w (.cells (fW q L) 27);have HX:=aC.new w 27 (fW q L);obtain⟨W1,hW1⟩:∃W1,W1=w.alloc (.cells (fW q L) 27):=⟨_,rfl⟩;have s1:W1.heap.size=w.heap.size+1:=by rw[hW1,World.size_alloc]
 rw[<- hW1] at bb HX;have b2:=ah W1 (.cells #[.pointer none] 72);have k4:=aC.new W1 72 #[.pointer none];obtain⟨W2,hW2⟩:∃W2,W2=W1.alloc (.cells #[.pointer none] 72):=⟨_,rfl⟩;have s2:W2.heap.size=W1.heap.size+1:=by rw[hW2,World.size_alloc]
 rw[<- hW2] at b2 k4;have b3:=ah W2 (.cells #[af 0] 34);have k5:=aC.new W2 34 #[af 0];have dU:=hO _ w.heap.size W1.heap.size W2.heap.size _ _ _ rfl rfl rfl ((HX.later b2).later b3) (k4.later b3) k5 (Below.trans (Below.trans bb (b2.mono WC)) (b3.mono WC)) ⟨Nat.le_refl _,by omega,by omega⟩;simp only[bZ,Uac] at dU;simp only[bZ,h0] at dU ⊢;subst hW2;subst hW1;clear h0 hO s1 s2 bb b2 b3 HX k4 k5;clear h0 hT;simp only[World.size_alloc] at dU;unfold fW tJ at*;simp only[bL,fA,Tryz.f28,Option.getD_some] at dU ⊢;refine wp_seq_k λ K hK=>?_
 have HK:=aa hK;have LV:=aa dU;clear hK dU;go_wp2_with fail;exact HK.ae _ _ LV.ae
def Av (q:Qy)(L:QL)(CA:Option Addr)(cc:Nat)(cols:List aZ):PC:=⟨.slice L.i.A L.i.n L.i.c,.string q.bZ,.bool q.only,.slice L.w.A L.w.n L.w.c,.slice L.h.A L.h.n L.h.c,.slice L.o.A L.o.n L.o.c,.slice L.l.A L.l.n L.l.c,L.g.A,L.g.n,L.g.c,CA,cc,q.aK,q.aL,cols⟩
def kX:Value:=az
variable{w0 W:World}{gp g2 g4 g5 D:Nat}{hv:Value}
theorem L5(hb:aj w0 w)(hB0:w0.heap.size<=B)(hblk:aC w gp 81 ((Av q L CA cc cols).cells ⟨hv,kX,kX,kX⟩ kX kX))(ho:aI aU 113 2 w B hv cols)(hg:hv.ownBlock≠some gp)(hBg:B<=gp)
  (k2:aC w g2 27 (fW q L)) (k4:aC w g4 72 #[.pointer none]) (k5:aC w g5 34 #[af 0]) (l2:g2 < B) (l4:g4 < B) (l5:g5 < B) (m4:w0.heap.size<=g4) (m5:w0.heap.size<=g5) (AO:g4≠g5)
  (hW:aj w W) (hD:w.heap.size<=D) (hd:W.heap[D]?=some (.deferred (some []))):
  cT (Av q L CA cc cols) w0 gp g2 (fW q L) g4 g5 D ⟨hv,kX,kX,kX⟩ W kX kX [] ⟨[],[]⟩ cols [] [] [] [] [] []:=by
 have Aj:=hblk.lt;have hs:=hW.size
 have hDl:D < W.heap.size:=by
  rcases Nat.lt_or_ge D W.heap.size with h | h
  ·exact h
  ·rw[Array.getElem?_eq_none h] at hd;cases hd
 have hown:∀i < 6,∀b,(PR kX kX ⟨hv,kX,kX,kX⟩ i).ownBlock=some b->i=2/\B<=b/\b < w.heap.size/\b≠gp:=λ i hi b hb=>by
  match i with
  | 0 | 1 | 3 | 4=>cases hb
  | 2=>have hb:hv.ownBlock=some b:=hb;exact⟨rfl,(ho.lt hb).2.1,(ho.lt hb).1,λ e=>hg (by rw[hb,e])⟩
  | n+5=>cases hb
 have kp:∀b,b < W.heap.size->b≠gp->(b < B\/w.heap.size<=b)->tD W gp (PR kX kX ⟨hv,kX,kX,kX⟩) b:=λ b h1 h2 h3=>⟨h1,h2,λ i hi e=>by
  obtain⟨_,h4,h5,_⟩:=hown i hi b e
  omega⟩
 have n2:=k2.lt;have n4:=k4.lt;have n5:=k5.lt;refine⟨⟨by omega,by omega,Below.trans hb (hW.mono hb.size),λ i hi b e=>?_,λ i hi j hj kY b e1 e2=>kY ((hown i hi b e1).1.trans (hown j hj b e2).1.symm),kp g2 WC WC (.inl l2),kp g4 WC WC (.inl l4),kp g5 WC WC (.inl l5),kp D hDl WC (.inr hD),⟨m4,m5,AO,by omega,by omega⟩,hd,k2.later hW,k4.later hW,k5.later hW⟩,hblk.later hW,oL,oL,Nl (ho.later hW) hB0,oL,oL,oL,?_,?_,?_,?_⟩
 ·obtain⟨_,h4,h5,h6⟩:=hown i hi b e;exact⟨by omega,by omega,h6⟩
 all_goals (unfold Tr.aQ;rfl)
def L6 (c:PC)(w0:World)(q:Qy)(L:QL)(e:Ending)(W:World):Prop:=
 (∃er,(jL q/\er=1\/¬jL q/\sD c.aK c.aL c.cols q=.error er)/\er≠0/\e=.returned (.tuple #[.pointer none,af er])/\aj w0 W)\/
 (∃gp g2 g4 g5 D r W1 u v ya s hd yi yh yo ti th eE,¬jL q/\sD c.aK c.aL c.cols q=.ok (ti,hd,th,eE,s)/\e=.returned (.tuple #[aw gp,af 0])/\w0.heap.size<=D/\cT c w0 gp g2 (fW q L) g4 g5 D r W1 u v ya s ((if q.items=[] then c.cols else [])++hd) yi yh yo ti th eE/\W=(jr W1 g4 g5 gp).putObj D (.deferred none))
variable{T:Array Value}{a b:Value}
theorem Ba(h4:T.getD 4 undef=aw g4)(h5:T.getD 5 undef=aw g5)(c4:W.cell? ⟨g4,0,none⟩=some a)(c5:W.cell? ⟨g5,0,none⟩=some b):(results Tryz.f28 T).run Tryz.prog W=.ok (.tuple #[a,b]) W:=by
 have e4:T[4]?.getD undef=aw g4:=by rw[<- h4];simp[Array.getD_eq_getD_getElem?]
 have e5:T[5]?.getD undef=aw g5:=by rw[<- h5];simp[Array.getD_eq_getD_getElem?]
 simp[results,Tryz.f28,go_sem,e4,e5,c4,c5]
theorem acH:Tryz.f28.body=some bL:=by unfold bL;simp only[Tryz.f28,Option.getD_some]
theorem acI (a b:Value):(#[a,b]++Array.replicate (Tryz.f28.ntmps - (#[a,b]:Array Value).size) undef).size=252:=by simp[Tryz.f28]
variable{er:Int}
theorem GX(b4:aC W g4 72 #[.pointer none])(b5:aC W g5 34 #[af 0])(h:g4≠g5):(jd W g4 g5 er).cell? ⟨g4,0,none⟩=some (.pointer none)/\(jd W g4 g5 er).cell? ⟨g5,0,none⟩=some (af er):=
 ⟨(((b4.aW 0 (.pointer none)).far (p:=⟨g5,0,none⟩) h (af er)).cell 0),((b5.far (p:=⟨g4,0,none⟩) (Ne.symm h) (.pointer none)).aW 0 (af er)).cell 0⟩
theorem L8(b4:aC W g4 72 #[.pointer none])(b5:aC W g5 34 #[af 0])(h:g4≠g5):(jr W g4 g5 gp).cell? ⟨g4,0,none⟩=some (aw gp)/\(jr W g4 g5 gp).cell? ⟨g5,0,none⟩=some (af 0):=
 ⟨(((b4.aW 0 (aw gp)).far (p:=⟨g5,0,none⟩) h (af 0)).cell 0),((b5.far (p:=⟨g4,0,none⟩) (Ne.symm h) (aw gp)).aW 0 (af 0)).cell 0⟩
variable{ob ob':Obj}
theorem lM(h:W.heap[D]?=some ob)(hc:ob.isCells=false) {p:Addr} (hv:W.cell? p=some v):(W.putObj D ob').cell? p=some v:=(Fr.putObj W D ob ob' h hc).cell p v hv
theorem vh(h:Below B w W)(hD:B<=D):Below B w (W.putObj D ob'):=
 ⟨h.os,h.tape,h.output,by simpa using h.size,λ k hk=>(World.putObj_heap_other WC).trans (h.block k hk)⟩
theorem zio.Kce(h:p:=by refine⟨by simp,.inl ⟨_,_,rfl,run_takeDeferred hK,?_⟩⟩;exact⟨_,Ba r4 r5 (lM hK rfl c4) (lM hK rfl c5),.inr ⟨gp,g2,g4,g5,D,r',W,u',v',qE,s',xl,yi,yh,yo,ti,th,eE,Uy,he,rfl,hDl,hp,rfl⟩⟩):p:=h
theorem zjG.KcM(h:p:=by
 clear Kj;have HRC:=hq.ok.cols;refine L3 q L T hT t0 w0 _ ?_;intro Wa g2 g4 g5 x2 x4 x5 e2 e4 e5 k2 k4 k5 hba hg;have HBa:aj w0 Wa:=hba;have t0':T[0]?.getD undef=tJ q L:=by rw[<- t0];simp[Array.getD_eq_getD_getElem?]
 have t1':T[1]?.getD undef=.slice CA cols.length cc:=by rw[<- t1];simp[Array.getD_eq_getD_getElem?]
 have aoZ:T[1]'(by rw[hT];decide)=.slice CA cols.length cc:=by have h:=t1';rw[Array.getElem?_eq_getElem (by rw[hT];decide)] at h;exact h
 refine acG q L CA cc cols g2 _ TaF ?_ ?_ Wa _ (Ki.later hba) bh (HRC.later hba) cg k2 ?_
 ·exact ZhD
 ·exact ZfG
 intro gp Wb z31 z32 z33 z34 z35 z36 z37 z38 hpl kE;obtain⟨hv,p1,p2,p3,p4⟩:=hpl;have q2:=k2.later kE;have q4:=k4.later kE;have q5:=k5.later kE;have hB:=Below.trans hba (kE.mono hba.size);refine acF g2 g2 g4 g5 gp q L _ TaF ZfG ZhZ Zh0 Wb _ Ki.w.n Ki.h.n Ki.l.1 ((Ki.later hB).l.2) q2 q4 q5 WC ?_ ?_
 ·rintro⟨ta,da⟩ jS ⟨rfl,r4,r5⟩;obtain⟨c4,c5⟩:=GX (er:=1) q4 q5 WC;refine⟨_,Ba r4 r5 c4 c5,.inl ⟨1,.inl ⟨jS,rfl⟩,by decide,rfl,(hB.setCell (p:=⟨g4,0,none⟩) (show w0.heap.size<=g4 by omega) _).setCell (p:=⟨g5,0,none⟩) (show w0.heap.size<=g5 by omega) _⟩⟩
 ·intro Uy y39 y40 y41 y42 y43 y44 y45 y46 y47 y48 y49 y50 y51 y52 y53 y54 y55 y56 y57 y58 y59 y60 y61 y62 y63 y64 y65 y66 y67;refine acE (Av q L CA cc cols) w0 gp g2 g4 g5 q L ⟨hv,kX,kX,kX⟩ kX kX cols _ TaF ?_ ?_ ?_ ?_ ?_ Wb _ hq ?_ hB q2 q4 q5 WC WC WC ?_ ?_ ?_
  ·exact ZhD
  ·exact ZfG
  ·exact ZhZ
  ·exact Zh0
  ·simp[Array.getD_eq_getD_getElem?,Array.getElem?_setIfInBounds,hT]
  ·intro W D hW hD hd;exact L5 hB hba.size p1 p2 p3 p4 q2 q4 q5 k2.lt k4.lt k5.lt WC WC WC hW hD hd
  ·rintro D ⟨ta,da⟩ W hDl apa ⟨rfl,r4,r5⟩ ⟨d1,d2,d3⟩ hK;refine⟨by simp,.inl ⟨_,_,rfl,run_takeDeferred hK,?_⟩⟩;refine⟨_,Ba r4 r5 (lM hK rfl (d2.cell 0)) (lM hK rfl (d3.cell 0)),.inl ⟨1,.inr ⟨Uy,if_pos apa⟩,by decide,rfl,vh d1 hDl⟩⟩
  ·rintro D er ⟨ta,da⟩ W hDl he hne ⟨rfl,r4,r5⟩ ⟨w1,w2,w3,w4,w5,w6,w7,w8,w9⟩;obtain⟨c4,c5⟩:=GX (er:=er) w7 w8 w4;have hK:(jd W g4 g5 er).heap[D]?=some (.deferred (some [])):=by unfold jd;rw[Below.heap_setCell _ ⟨g5,0,none⟩ _ D (Ne.symm w6),Below.heap_setCell _ ⟨g4,0,none⟩ _ D (Ne.symm w5)];exact w9
   refine⟨by simp,.inl ⟨_,_,rfl,run_takeDeferred hK,?_⟩⟩;refine⟨_,Ba r4 r5 (lM hK rfl c4) (lM hK rfl c5),.inl ⟨er,.inr ⟨Uy,he⟩,hne,rfl,vh ((w1.setCell (p:=⟨g4,0,none⟩) w2 _).setCell (p:=⟨g5,0,none⟩) w3 _) hDl⟩⟩
  ·rintro D ⟨ta,da⟩ W r' u' v' qE s' xl yi yh yo ti th eE hDl he ⟨rfl,r4,r5⟩ hp;have hf:=hp.f;obtain⟨c4,c5⟩:=L8 (gp:=gp) hf.z4 hf.z5 hf.new.2.2.1;open zio in exact ZfN):p:=h
theorem Nn (q:Qy)(L:QL)(CA:Option Addr)(cc:Nat)(cols:List aZ)(w0:World)(Ki:rD w0 q L)(bh:q.Ok)(cg:cols.length<=1000)(hq:DJ (Av q L CA cc cols) w0 q L cols):
  ar 28 #[tJ q L,.slice CA cols.length cc] w0 (L6 (Av q L CA cc cols) w0 q L):=by
 refine(callsIn_wide (n:=4)).1 ?_;refine callsIn_of_wp_marks (c:=bL) Tryz.func28 acH trivial ?_ rfl;refine wpIn_wide.2 ?_;obtain⟨T,Kj⟩:∃T:Array Value,T= #[tJ q L,.slice CA cols.length cc]++Array.replicate (Tryz.f28.ntmps - (#[tJ q L,.slice CA cols.length cc]:Array Value).size) undef:=⟨_,rfl⟩;rw[<- Kj];have hT:T.size=252:=by rw[Kj];exact acI _ _
 open zjG in exact Ziz
theorem L9(cols:List aZ)(h:jL q):ew q cols=.error 1:=by unfold ew;exact if_pos h
theorem GY(cols:List aZ)(h:¬jL q):ew q cols=match sD q.aK q.aL cols q with
  | .error e=> .error e
  | .ok (is,hd,hs,os,s)=> .ok ⟨q.aK,if q.items=[] then cols else hd,s,is,hs,os⟩:=by
 unfold ew sD;rw[if_neg (show¬(1 < q.cK.length\/1 < q.ft.length\/1 < q.lim.length\/(q.lim.length=1/\q.lim.getD 0 0 < 0))from h)];by_cases hd:(q.all.any λ t=>decide (32 < t.depth))=true
 ·rw[if_pos hd,if_pos hd]
 ·rw[if_neg hd,if_neg hd];unfold xd
  cases pC cols q.cK with
  | error e=>rfl
  | ok u=>
    dsimp only;unfold xa
    cases kK cols q.aL 0 with
    | error e=>rfl
    | ok gc=>
      dsimp only;unfold zG;by_cases hi:q.items=[]/\q.aK=true
      ·rw[if_pos hi,if_pos hi]
      ·rw[if_neg hi,if_neg hi];unfold wZ
       cases dT q.aK q.aL cols q.items ⟨[],gc⟩with
       | error e=>rfl
       | ok p=>
         obtain⟨is,hd,s1⟩:=p;dsimp only;unfold GV
         cases dB q.aK q.aL cols q.ft s1 with
         | error e=>rfl
         | ok p=>
           obtain⟨hs,s2⟩:=p;dsimp only
           cases eu q.aK q.aL cols q.ord s2 with
           | error e=>rfl
           | ok p=>rfl
variable{g:Bool}{aL is:List Tr}{hd:List aZ}{hs os:List Tr}{s:dE}
theorem VZ(hi:q.items=[])(h:sD g aL cols q=.ok (is,hd,hs,os,s)):hd=[]:=by
 unfold sD at h;split at h
 ·cases h
 ·unfold xd at h;split at h
  ·cases h
  ·unfold xa at h;split at h
   ·cases h
   ·unfold zG at h;split at h
    ·cases h
    ·unfold wZ at h;rw[hi] at h;unfold dT at h;dsimp only at h;split at h
     ·cases h
     ·injection h with h;injection h with _ h;injection h with h _;exact h.symm
mutual
theorem Tr.at_.ex {w w':World} {S S':Nat->Prop}(hE:∀b off x,cy w b off x->cy w' b off x)(hS:∀b,S b->S' b):∀(t:Tr) (y:Ex),t.at_ w S y->t.at_ w' S' y
 | .mk op v name width args,y,h=>by
   unfold Tr.at_ at h ⊢;obtain⟨h1,h2,h3,h4,h5,ys,h6,h7⟩:=h;refine⟨h1,h2,h3,h4,h5,ys,?_,Tr.aQ.ex hE hS args ys h7⟩;rcases h6 with h6 |⟨b,off,k1,k2,k3⟩
   ·exact .inl h6
   ·exact .inr ⟨b,off,k1,hS b k2,λ i x hx=>hE _ _ _ (k3 i x hx)⟩
theorem Tr.aQ.ex {w w':World} {S S':Nat->Prop}(hE:∀b off x,cy w b off x->cy w' b off x)(hS:∀b,S b->S' b):∀(ts:List Tr) (ys:List Ex),Tr.aQ w S ts ys->Tr.aQ w' S' ts ys
 | [],ys,h=>by unfold Tr.aQ at h ⊢;exact h
 | t::ts,ys,h=>by unfold Tr.aQ at h ⊢;obtain⟨y,ys',h1,h2,h3⟩:=h;exact⟨y,ys',h1,Tr.at_.ex hE hS t y h2,Tr.aQ.ex hE hS ts ys' h3⟩
end
variable{off:Nat}{t:TypeId}{x:Ex}
theorem M0{g:Nat}   (hb:aC w g t #[a])(h:cy w g off x):False:=by unfold cy at h;have h1:=h.2.1;rw[hb.cell] at h1;simp at h1
theorem M3{g:Nat}  (hb:aC w g t #[a])(b off:Nat)(x:Ex)(h:cy w b off x):cy (w.setCell ⟨g,0,none⟩ v) b off x:=by
 have hne:b≠g:=λ e=>by subst e;exact M0 hb h
 exact h.keep λ o=>bJ (Below.heap_setCell w ⟨g,0,none⟩ v b hne) o
theorem Wc(b4:aC W g4 72 #[.pointer none])(b5:aC W g5 34 #[af 0])(h:g4≠g5)(hD:(jr W g4 g5 gp).heap[D]?=some (.deferred (some [])))(b off:Nat)(x:Ex)(hx:cy W b off x):cy ((jr W g4 g5 gp).putObj D (.deferred none)) b off x:=
 (M3 (b5.far (p:=⟨g4,0,none⟩) (Ne.symm h) (aw gp)) b off x (M3 b4 b off x hx)).fr (Fr.putObj _ D _ _ hD rfl)
structure aeM (c:PC) (w0 W:World) (gp:Nat) (r:Rest) (u v:Value) (ya yi yh yo:List Ex) (p:ji):Prop where
 base:aj w0 W
 low:w0.heap.size<=gp
 blk:aC W gp 81 (c.cells r u v)
 o0:aI bI 46 7 W w0.heap.size u ya
 o1:aI aU 113 2 W w0.heap.size v p.st.aL
 o2:aI aU 113 2 W w0.heap.size r.h p.head
 o3:aI bI 46 7 W w0.heap.size r.i yi
 o4:aI bI 46 7 W w0.heap.size r.j yh
 o5:aI bI 46 7 W w0.heap.size r.o yo
 aM:Tr.aQ w0 (Old w0) p.st.aM ya
 t3:Tr.aQ W (Old W) p.items yi
 t4:Tr.aQ W (Old W) p.having yh
 t5:Tr.aQ W (Old W) p.order yo
def JK (q:Qy)(L:QL)(CA:Option Addr)(cc:Nat)(cols:List aZ)(w0:World)(e:Ending)(W:World):Prop:=
 match ew q cols with
 | .error er=>er≠0/\e=.returned (.tuple #[.pointer none,af er])/\aj w0 W
 | .ok p=>∃gp r u v ya yi yh yo,e=.returned (.tuple #[aw gp,af 0])/\aeM (Av q L CA cc cols) w0 W gp r u v ya yi yh yo p
theorem ziq.Kce(h:p:=by
 have hs:Kx.heap.size=W.heap.size:=by rw[hW];simp[jr]
 have aeN:∀b,b≠g4->b≠g5->b≠D->Kx.heap[b]?=W.heap[b]?:=λ b a1 a2 a3=>by rw[hW,World.putObj_heap_other a3];unfold jr;rw[Below.heap_setCell _ ⟨g5,0,none⟩ _ b a2,Below.heap_setCell _ ⟨g4,0,none⟩ _ b a1]
 have hex:=λ b off x=>hW▸Wc (gp:=gp) hf.z4 hf.z5 hf.new.2.2.1 hK b off x
 have hS:∀b,tD W gp (PR u v r) b->Old Kx b:=λ b hb=>by show b < Kx.heap.size;rw[hs];exact hb.1
 have hrow:∀ {α:Type} {f:α->List Value} {t:TypeId} {size:Nat} {l:List α} (i:Nat),i < 6->aI f t size W w0.heap.size (PR u v r i) l->aI f t size Kx w0.heap.size (PR u v r i) l:=λ i hi ho=>ho.keep λ g hg=>aeN g (λ e=>hf.k4.2.2 i hi (e▸hg)) (λ e=>hf.k5.2.2 i hi (e▸hg)) (λ e=>hf.kD.2.2 i hi (e▸hg))
 refine⟨gp,r,u,v,ya,yi,yh,yo,he,⟨?_,hf.low,(aeN gp (Ne.symm hf.k4.2.1) (Ne.symm hf.k5.2.1) (Ne.symm hf.kD.2.1)).trans hp.blk,hrow 0 WC hp.o0,hrow 1 WC hp.o1,hrow 2 WC (Si▸hp.o2),hrow 3 WC hp.o3,hrow 4 WC hp.o4,hrow 5 WC hp.o5,hp.aM,Tr.aQ.ex hex hS _ _ hp.t3,Tr.aQ.ex hex hS _ _ hp.t4,Tr.aQ.ex hex hS _ _ hp.t5⟩⟩;rw[hW];exact vh ((hf.base.setCell (p:=⟨g4,0,none⟩) hf.new.1 _).setCell (p:=⟨g5,0,none⟩) hf.new.2.1 _) hDl):p:=h
theorem Rh (q:Qy)(L:QL)(CA:Option Addr)(cc:Nat)(cols:List aZ)(w0:World)(Ki:rD w0 q L)(bh:q.Ok)(cg:cols.length<=1000)(hq:DJ (Av q L CA cc cols) w0 q L cols):
  ar 28 #[tJ q L,.slice CA cols.length cc] w0 (JK q L CA cc cols w0):=by
 refine(Nn q L CA cc cols w0 Ki bh cg hq).mono ?_;rintro e Kx (⟨er,h1,h2,h3,h4⟩|⟨gp,g2,g4,g5,D,r,W,u,v,ya,s,hd,yi,yh,yo,ti,th,eE,hn,hr,he,hDl,hp,hW⟩)
 ·have hx:ew q cols=.error er:=by
   rcases h1 with ⟨hb,rfl⟩|⟨hb,hr⟩
   ·exact L9 cols hb
   ·have hr:sD q.aK q.aL cols q=.error er:=hr;rw[GY cols hb,hr]
  unfold JK;rw[hx];exact⟨h2,h3,h4⟩
 ·have hr:sD q.aK q.aL cols q=.ok (ti,hd,th,eE,s):=hr;have hx:ew q cols=.ok ⟨q.aK,if q.items=[] then cols else hd,s,ti,th,eE⟩:=by rw[GY cols hn,hr]
  have Si:((if q.items=[] then cols else [])++hd)=(if q.items=[] then cols else hd):=by
   by_cases hi:q.items=[]
   ·rw[if_pos hi,if_pos hi,VZ hi hr,append_nil]
   ·rw[if_neg hi,if_neg hi,nil_append]
  unfold JK;rw[hx];have hf:=hp.f;open ziq in exact ZfN
theorem DJ.later(h:DJ (Av q L CA cc cols) w q L hd)(hb:aj w w'):DJ (Av q L CA cc cols) w' q L hd:=
 ⟨⟨h.ok.env.later hb,h.ok.aL.later hb,h.ok.gok,h.ok.gl,h.ok.cols.later hb,h.ok.cl⟩,h.qw,h.iw.later hb,h.nw,h.qg,h.ig.later hb,h.ng,h.qi,h.ii.later hb,h.ni,h.nh,h.qh,h.ih.later hb,h.nhv,h.qo,h.io.later hb,h.no,h.len⟩
def aie (gb:Nat)(le:Int):Nat->World->Value->Prop
 | 0,_,v=>v=aw gb
 | 1,_,v=>v=af le
 | 2,_,v=>v=az
 | 3,_,v=>v=af le
 | _,_,_=>False
theorem Ri (gb:Nat)(le:Int):∀i w w' v,aie gb le i w v->ai w w'->aie gb le i w' v:=by
 intro i w w' v h hl
 match i with
 | 0 | 1 | 2 | 3=>exact h
 | n+4=>exact h
theorem acJ (gb:Nat)(e0:Int)(lv:Value)(T:Array Value)(hT:T.size=164)(h9:T.getD 9 undef=aw gb)(h10:T.getD 10 undef=lv)(d:List Deferred)(w:World)(Q:Exit->Act->World->Prop)(HX:aC w gb 84 #[af e0])
  (hE:e0≠0->∀a W,a.defers=d->a.tmps.getD 4 undef=az->a.tmps.getD 5 undef=af e0->aj w W->Q .ret a W)
  (hO:e0=0->∀T':Array Value,T'.size=164->T'.getD 9 undef=aw gb->T'.getD 10 undef=lv->(fA gU 8).wp Tryz.prog Q { tmps:=T',defers:=d } w):
  (fA gU 7).wp Tryz.prog Q { tmps:=T,defers:=d } w:=by
 obtain⟨f,rfl⟩:=Jr T hT;have h9:f 9=_:=h9;have h10:f 10=_:=h10;simp only[U4,h9,h10];clear h9 h10;clear h9 h10 hT;have hh:=λ h0 (T':Array Value) a0 a1 a2=>hO h0 T' a0 a1 a2
 simp only[gU,fA,Tryz.f33,Option.getD_some] at hh;have HO:=aa hh;have HE:=aa hE;have HK:=aa HX;have z0:=HX.cell 0;simp only[getElem?_toArray,getElem?_cons_zero] at z0;clear hh hO hE HX;simp only[gU,fA,Tryz.f33,Option.getD_some];refine wp_seq_k λ K hK=>?_
 have DY:=aa hK;clear hK;by_cases h:e0=0
 ·have t1:(e0 != 0)=false:=by simp[h]
  have H:=aa h;clear h;go_wp2_with fail;exact DY.ae _ _ (HO.ae H.ae _ rfl rfl rfl)
 ·have t1:(e0 != 0)=true:=by simp[h]
  have H:=aa h;clear h;go_upto_region 23 with fail;clear z0;refine bC 4 (aie gb e0) (Ri _ _) Vx Vx Vx ?_ ?_
  ·simp only[take_succ_cons,take_zero];refine⟨Zab,ZbA,ZgY,Zab,trivial⟩
  intro W3 hL;simp only[Uab];rintro _ rfl _ rfl _ rfl _ rfl;simp only[bF,Act.put,Uac];go_wp2_with fail;exact HE.ae H.ae _ _ rfl rfl rfl hL
theorem zhi.KbO(h:p:=by
 go_wp2_with fail;clear c9;go_loopw [6,31] (λ av Ly wr=>∃i:Nat,i<=aL.length/\Ly=af i/\aI bI 46 7 wr w.heap.size av ((ls.take i).flatMap ue.ys)/\aj w wr) (λ _ Ly _=>aL.length - (intOf Ly).toNat);case atStart=>exact Zc7
 case round=>
  obtain⟨i,hk,rfl,hp,hb⟩:=hrel;have HP:=aa hp;clear hp;by_cases hlt:i < aL.length
  ·obtain⟨b,off,rfl,kE,hex⟩:=(IH.ae.ra.below hb).at_ hlt;have hlk:i < ls.length:=by rw[HH.ae];exact hlt
   have hk9:i<=100000:=by have:=Q5.ae;omega
   obtain⟨e1,e2,e3,GD⟩:=Q3.ae i aL[i] ls[i] (getElem?_eq_getElem hlt) (getElem?_eq_getElem hlk);have pA:=aa (show(ls.take (i+1)).flatMap ue.ys=(ls.take i).flatMap ue.ys++ls[i].ys by rw[take_add_one,getElem?_eq_getElem hlk,flatMap_append];simp)
   have apb:((ls.take i).flatMap ue.ys).length+ls[i].ys.length<=100000:=by
    have h1:((ls.take (i+1)).flatMap ue.ys).length<=(ls.flatMap ue.ys).length:=by
     have h2:ls.flatMap ue.ys=(ls.take (i+1)).flatMap ue.ys++(ls.drop (i+1)).flatMap ue.ys:=by rw[<- flatMap_append,take_append_drop]
     rw[h2,length_append];omega
    rw[pA.ae,length_append] at h1;have:=Q4.ae;omega
   have HRE:=aa ((GD.below hb).more hb.size);generalize aL[i]=y at*;generalize ls[i]=x at*;generalize (ls.take i).flatMap ue.ys=zs at*;unfold cy at hex;rw[e1,e2,e3] at hex;clear e1 e2 e3 GD hlk;go_upto_region 5 with fail;have bY:=ah wr (.cells #[ag y.op,ag y.v.k,af y.v.n,.string y.v.s,.string y.name,af y.width,.slice x.A x.ys.length x.c] 46);have HX:=aC.new wr 46 #[ag y.op,ag y.v.k,af y.v.n,.string y.v.s,.string y.name,af y.width,.slice x.A x.ys.length x.c];have x6:=HX.cell 6;simp only[Uaa] at x6;have LV:=aa (HP.ae.later bY);have ko:=aa (HRE.ae.later bY).reads;have hb2:=ai.then hb bY
   have hbase:=hb2.size;obtain⟨i0,kB,hg4,oP,HZ⟩:=info_parts fM;have HI:=aa kB;have Kf:=aa hg4;have Gs:=aa oP;have tN:=aa HZ;have aBG:=apb;clear bY HX hex kE hb HP HRE kB hg4 oP HZ;go_wp2_with (first
    |(at_builtin
      refine cO _ rfl (.tmp 35) (.tmp 37) 23 rfl w.heap.size 46 i0 _ 7 88 Tryz.underlying23 HI.ae Kf.ae Gs.ae tN.ae rfl WC _ zs.length (zs.flatMap bI) rfl LV.ae _ x.A x.ys.length x.c (x.ys.flatMap bI) rfl ko.ae (PN x.ys) Tam WC hbase ?_
      intro v4 w4 o4 g4 _
      have O4:=aa (show aI bI 46 7 w4 w.heap.size v4 (zs++x.ys) by
       unfold aI
       rw[length_append,flatMap_append]
       exact o4)
      have B4:=aa (bw LV.ae g4 hbase)
      clear o4 g4))
   go_roundw;case rel=>exact⟨i+1,hlt,by go_num,by rw[pA.ae];exact O4.ae,hb2.trans B4.ae⟩
   case measure=>exact Za6
  ·have fL:i=aL.length:=by omega
   subst fL;have HAV:=aa (show aI bI 46 7 wr w.heap.size u6 (ls.flatMap ue.ys) by have h1:=HP.ae;rwa [<- HH.ae,take_length] at h1);clear HP;go_wp2_with fail;refine IM.ae _ _ ?_;clear IM hlt hk;have b1:=ah wr (.cells #[af 0] 84);have k1:=aC.new wr 84 #[af 0];have ze:=aa k1;have aif:=aa (HAV.ae.later b1);have eN:=aa (Below.trans hb (b1.mono hb.size));have HLT:=aa hb.size;clear b1 k1 HAV hb;refine wp_seq_k λ K0 hK=>?_
   have DY:=aa hK;clear hK;go_wp2_with fail;refine DY.ae _ _ ?_;clear DY;generalize wr.alloc (.cells #[af 0] 84)=W1 at*;generalize wr.heap.size=gb at*;refine wp_seq_k λ K4 hK4=>?_
   have CY:=aa hK4;clear hK4;go_wp2_with fail;refine CY.ae _ _ ?_;clear CY;refine wp_seq_k λ K5 hK5=>?_
   have HK5:=aa hK5;clear hK5;have PE:=aa (IH.ae.later eN.ae);have c4:=PE.ae.c4;rw[Q1.ae] at c4;by_cases hg0:gn=0
   ·have t1:((gn:Int)==0)=true:=by simp[hg0]
    have U2:=aa hg0;clear hg0;go_wp2_with fail;clear c4 t1;refine(Gl gp aL AA ac none 0 0 W1 (by have:=Q5.ae;omega) PE.ae.lt PE.ae.c9 PE.ae.ra oQ.ae).mono ?_;rintro e w2 ⟨gg,sv,qs,rfl,ee,NJ,hgk,Qw,Ta,b2⟩;have bN:=ah w2 (.cells #[aw gg] 135);have hNB:=aC.new w2 135 #[aw gg];have F8:=eN.ae.size;have b3:=ai.then b2 bN
    have xq:=aa (show kt (w2.alloc (.cells #[aw gg] 135)) w.heap.size [⟨gg,none,0,[],sv,qs,aL.map λ y=>fh y.op⟩] from kt.later ⟨λ x hx=>by
     rw[mem_singleton] at hx
     subst hx
     exact⟨hgk,Nat.le_trans F8 ee,Qw.down F8,Ta.down F8,.inl rfl,λ a ha=>by cases ha⟩,pairwise_singleton _ _⟩ bN)
    have auG:=aa (aif.ae.later b3);have auH:=aa (ze.ae.later b3);have fH:=aa (Below.trans eN.ae (b3.mono F8));have qp:=aa hNB;have hbase:=fH.ae.size;have V1:=aa (show oJ gn aM [⟨gg,none,0,[],sv,qs,aL.map λ y=>fh y.op⟩] [] [] from⟨by unfold fo;rw[if_pos U2.ae];rfl,λ x hx=>by
     rw[mem_singleton] at hx
     subst hx
     show aL.map (λ y=>fh y.op)=_
     rw[CO (λ p Lw=>by cases Lw),<- ZV.ae,map_map]
     rfl⟩)
    clear bN hNB b2 b3 F8 hgk Qw Ta NJ ee aif ze eN PE;go_wp2_with (first
     |(at_builtin
       refine aV (f:=df) (l:=[]) rfl (.tmp 47) (.tmp 50) 134 rfl _ 8 Tryz.underlying134 CE rfl WC gg rfl TaY rfl aI.nil w2.heap.size rfl qp.ae Tac Tac hbase ?_
       intro v4 w4 o4 g4
       have O4:=aa o4
       have B4:=aa (show Below (w2.alloc (.cells #[aw gg] 135)).heap.size _ w4 from pM g4)
       clear o4 g4))
    exact HK5.ae _ _ (HF.ae _ u6 _ gb [⟨gg,none,0,[],sv,qs,aL.map λ y=>fh y.op⟩] _ rfl rfl rfl rfl rfl rfl (Below.trans fH.ae (B4.ae.mono hbase)) (auG.ae.later B4.ae) (auH.ae.later B4.ae) HLT.ae O4.ae (xq.ae.later B4.ae) V1.ae)
   ·have t1:((gn:Int)==0)=false:=by simp[hg0]
    have U2:=aa hg0;clear hg0;go_wp2_with fail;exact HK5.ae _ _ (HF.ae _ u6 _ gb [] _ rfl rfl rfl rfl rfl rfl eN.ae aif.ae ze.ae HLT.ae aI.nil .nil ⟨by unfold fo;rw[if_neg U2.ae];rfl,λ x hx=>by cases hx⟩)):p:=h
theorem zhP.Kb1(h:p:=by
 have oQ:=aa AP;have ZV:=aa Aj;have c9:=ih.c9;clear h hF ih q1 q2 q3 q4 q5 AP Aj;simp only[gU,fA,Tryz.f33,Option.getD_some];refine wp_seq_k λ Kx oZ=>?_
 have Hs:=aa oZ;clear oZ;go_wp2_with fail;refine Hs.ae _ _ ?_;open zhi in exact ZeR):p:=h
theorem We (gp gn:Nat)(KK aM:List Tr)(cols:List aZ)(yg aL:List Ex)(ls:List ue)(GA:Option Addr)(gc:Nat)(CA:Option Addr)(cc:Nat)(AA:Option Addr)(ac:Nat)(rv:Value)(T:Array Value)(hT:T.size=164)
  (h0:T.getD 0 undef=aw gp) (h1:T.getD 1 undef=rv) (d:List Deferred) (w:World) (Q:Exit->Act->World->Prop)
  (ih:Dn w gp KK aM cols yg aL GA gc CA cc AA ac) (q1:yg.length=gn) (q2:ls.length=aL.length) (q3:∀(Ly:Nat) y x,aL[Ly]?=some y->ls[Ly]?=some x->y.A=x.A/\y.n=x.ys.length/\y.c=x.c/\RE w w.heap.size x.A x.ys) (q4:(ls.flatMap ue.ys).length<=100000) (q5:aL.length<=100000) (AP:∀y∈aL,isAgg y.op=true) (Aj:aL.map Ex.op=aM.map Tr.op)
  (h:∀(T':Array Value) av lv gb xs W,T'.size=164->T'.getD 0 undef=aw gp->T'.getD 1 undef=rv->T'.getD 6 undef=av->T'.getD 9 undef=aw gb->T'.getD 10 undef=lv->aj w W->aI bI 46 7 W w.heap.size av (ls.flatMap ue.ys)->aC W gb 84 #[af 0]->w.heap.size<=gb->aI df 135 1 W w.heap.size lv (xs.map gJ.g)->kt W w.heap.size xs->oJ gn aM xs [] []->(fA gU 6).wp Tryz.prog Q { tmps:=T',defers:=d } W):
  (fA gU 0).wp Tryz.prog Q { tmps:=T,defers:=d } w:=by
 obtain⟨f,rfl⟩:=Jr T hT;have h0:f 0=_:=h0;have h1:f 1=_:=h1;simp only[U4,h0,h1];clear h0 h1;clear h0 h1 hT;have hF:=λ(T':Array Value) av lv gb xs W a0 a1 a2 a3 a4 a5 a6 a7 a8 a9 b0 b1 b2=>h T' av lv gb xs W a0 a1 a2 a3 a4 a5 a6 a7 a8 a9 b0 b1 b2
 simp only[gU,fA,Tryz.f33,Option.getD_some] at hF;open zhP in exact Ze7
noncomputable def xe (aL aM:List Tr) (cols:List aZ) (rows:List (List Val)):Except Int (List (List Val)):=match BS (rows.map λ r=>bz cols r (aL++aM.flatMap Tr.args))with
 | .error e=> .error e
 | .ok l=>nj aL.length aM l
def M5 (aL aM:List Tr)(cols:List aZ)(rows:List (List Val))(w0:World)(e:Ending)(W:World):Prop:=aj w0 W/\match xe aL aM cols rows with
 | .error er=>er≠0/\∃v,e=.returned (.tuple #[v,af er])
 | .ok gs=>∃v cl,e=.returned (.tuple #[v,af 0])/\aI bX 38 1 W w0.heap.size v cl/\Mine W w0.heap.size cl/\cl.map (·.l)=gs
variable{rows:List aN}
theorem DM{aM:List Tr}  :xe aL aM cols (rows.map (·.l))=if ea cols (aL++aM.flatMap Tr.args) rows≠0 then .error (ea cols (aL++aM.flatMap Tr.args) rows)else nj aL.length aM (fp cols (aL++aM.flatMap Tr.args) rows):=by
 have e1:((rows.map (·.l)).map λ r=>bz cols r (aL++aM.flatMap Tr.args)).map exE=rows.map λ r=>nG (bz cols r.l (aL++aM.flatMap Tr.args)):=by
  rw[map_map,map_map];refine map_congr_left λ r _=>?_
  show exE (bz cols r.l (aL++aM.flatMap Tr.args))=_;cases bz cols r.l (aL++aM.flatMap Tr.args)<;> rfl
 have e2:((rows.map (·.l)).map λ r=>bz cols r (aL++aM.flatMap Tr.args)).filterMap uI=fp cols (aL++aM.flatMap Tr.args) rows:=by unfold fp;rw[map_map,filterMap_map];congr 1;funext r;show uI (bz cols r.l (aL++aM.flatMap Tr.args))=_;cases bz cols r.l (aL++aM.flatMap Tr.args)<;> rfl
 unfold xe;rw[MO,e1,e2];unfold ea;by_cases h:dp (rows.map λ r=>nG (bz cols r.l (aL++aM.flatMap Tr.args)))=0
 ·rw[if_neg (by simp[h]),if_neg (by simp[h])]
 ·rw[if_pos h,if_pos h]
theorem M6{aM:List Tr}  (h:ea cols (aL++aM.flatMap Tr.args) rows≠0):xe aL aM cols (rows.map (·.l))=.error (ea cols (aL++aM.flatMap Tr.args) rows):=by rw[DM,if_pos h]
variable{xs:List gJ}
theorem acL{aM:List Tr}   (h:ea cols (aL++aM.flatMap Tr.args) rows=0)(hI:oJ aL.length aM xs (fp cols (aL++aM.flatMap Tr.args) rows) (fp cols (aL++aM.flatMap Tr.args) rows)):xe aL aM cols (rows.map (·.l))=if qF xs≠0 then .error (qF xs)else .ok (EG xs):=by
 rw[DM,if_neg (by simp[h])];generalize fp cols (aL++aM.flatMap Tr.args) rows=ls at*;have hk:(if aL.length=0 then [[]] else jo ((gu aL.length aM ls).map (·.1)))=xs.map gJ.key:=by rw[hI.keys];unfold fo gu;rw[map_map];rfl
 have e1:dp ((xs.map gJ.key).map λ k=>cN (dW (aM.map Tr.op) (gu aL.length aM ls) k))=qF xs:=by
  unfold qF;rw[map_map];congr 1;exact map_congr_left λ x hx=>by show cN (dW (aM.map Tr.op) (gu aL.length aM ls) x.key)=_;rw[ja,hI.qK x hx]
 have e2:(xs.map gJ.key).map (λ k=>k++(dW (aM.map Tr.op) (gu aL.length aM ls) k).map (·.1))=EG xs:=by
  unfold EG;rw[map_map];exact map_congr_left λ x hx=>by show x.key++(dW (aM.map Tr.op) (gu aL.length aM ls) x.key).map (·.1)=_;rw[ja,hI.qK x hx]
 unfold nj;show(if dp ((if aL.length=0 then [[]] else jo ((gu aL.length aM ls).map (·.1))).map λ k=>cN (dW (aM.map Tr.op) (gu aL.length aM ls) k))≠0 then Except.error (dp ((if aL.length=0 then [[]] else jo ((gu aL.length aM ls).map (·.1))).map λ k=>cN (dW (aM.map Tr.op) (gu aL.length aM ls) k)))else .ok ((if aL.length=0 then [[]] else jo ((gu aL.length aM ls).map (·.1))).map λ k=>k++(dW (aM.map Tr.op) (gu aL.length aM ls) k).map (·.1)))=_;rw[hk,e1,e2]
theorem acM:Tryz.f33.body=some gU:=by unfold gU;simp only[Tryz.f33,Option.getD_some]
theorem acN (a b:Value):(#[a,b]++Array.replicate (Tryz.f33.ntmps - (#[a,b]:Array Value).size) undef).size=164:=by simp[Tryz.f33]
theorem M7(h4:T.getD 4 undef=a)(h5:T.getD 5 undef=b):(results Tryz.f33 T).run Tryz.prog W=.ok (.tuple #[a,b]) W:=by
 have e4:T[4]?.getD undef=a:=by rw[<- h4];simp[Array.getD_eq_getD_getElem?]
 have e5:T[5]?.getD undef=b:=by rw[<- h5];simp[Array.getD_eq_getD_getElem?]
 simp[results,Tryz.f33,go_sem,e4,e5]
theorem Rj (gp:Nat)(aL aM:List Tr)(cols:List aZ)(yg ya:List Ex)(GA:Option Addr)(gc:Nat)(CA:Option Addr)(cc:Nat)(AA:Option Addr)(ac:Nat)(rows:List aN)(RA:Option Addr)(rrc:Nat)(w:World)
  (hEV:Dn w gp aL aM cols yg ya GA gc CA cc AA ac) (kG:ya.map Ex.op=aM.map Tr.op) (hagg:∀t∈aM,isAgg t.op=true) (E6:∀t∈aM,t.args.length<=2) (Jt:Tr.cP (aL++aM.flatMap Tr.args)) (Aj:aL.length<=1000) (xC:aM.length<=50000) (cg:cols.length<=140737488355328)
  (hR:RR w w.heap.size RA rows) (QD:rows.length<=300) (lX:∀r∈rows,r.l.length<=140737488355328/\∀v∈r.l,v.Ok):
  ar 33 #[aw gp,.slice RA rows.length rrc] w (M5 aL aM cols (rows.map (·.l)) w):=by
 obtain⟨ls,fq,hl2,uu,hl4⟩:=wL aM ya hEV.ta;have WQ:=dY hEV.tg;have zE:=dY hEV.ta
 have hle:(ls.flatMap ue.ys).length<=100000:=by
  rw[<- dY uu,length_flatMap]
  have:∀l:List Tr,(∀t∈l,t.args.length<=2)->(l.map λ t=>t.args.length).sum<=2*l.length:=by
   intro l
   induction l with
   | nil=>intro _;simp
   | cons t l ih=>
     intro h;have h1:=h t (mem_cons_self ..);have h2:=ih λ u hu=>h u (mem_cons_of_mem _ hu)
     rw[map_cons,sum_cons,length_cons];omega
  have:=this aM E6;omega
 have apd:∀y∈ya,isAgg y.op=true:=λ y hy=>by
  have h1:y.op∈aM.map Tr.op:=by rw[<- kG];exact mem_map_of_mem hy
  obtain⟨t,ht,he⟩:=List.mem_map.1 h1;rw[<- he];exact hagg t ht
 refine calls_of_wp Tryz.func33 acM ?_;obtain⟨T,Kj⟩:∃T:Array Value,T= #[aw gp,.slice RA rows.length rrc]++Array.replicate (Tryz.f33.ntmps - (#[aw gp,.slice RA rows.length rrc]:Array Value).size) undef:=⟨_,rfl⟩;rw[<- Kj];have hT:T.size=164:=by rw[Kj];exact acN _ _
 have t0:T.getD 0 undef=aw gp:=by rw[Kj];simp[Array.getD_eq_getD_getElem?]
 have t1:T.getD 1 undef=.slice RA rows.length rrc:=by rw[Kj];simp[Array.getD_eq_getD_getElem?]
 clear Kj;refine We gp aL.length aL aM cols yg ya ls GA gc CA cc AA ac (.slice RA rows.length rrc) T hT t0 t1 [] w _ hEV WQ.symm fq hl2 hle WC apd kG ?_;intro T1 av lv gb xs0 W1 s1 s2 s3 s4 s5 s6 b1 o1 k1 g1 l1 x1 i1;refine E5 w gp gb aL.length aL aM cols yg ya (ls.flatMap ue.ys) GA gc CA cc AA ac rows RA rrc av lv xs0 T1 s1 s2 s3 s4 s5 s6 [] W1 _ hEV WQ.symm uu hl4 kG hagg E6 Jt WC WC hle cg hR QD lX b1 o1 k1 g1 l1 x1 i1 ?_;intro T2 lv2 xs W2 s1 s2 s3 b2 k2 l2 x2 i2;have hlen:(fp cols (aL++aM.flatMap Tr.args) rows).length<=rows.length:=uX _ _ _;refine acJ gb _ lv2 T2 s1 s2 s3 [] W2 _ k2 ?_ ?_
 ·intro hne a W e1 e2 e3 bW;refine⟨e1,_,M7 e2 e3,Below.trans b2 (bW.mono b2.size),?_⟩;rw[M6 hne];exact⟨hne,_,rfl⟩
 ·intro hz T3 s1 s2 s3;rw[hz] at k2;have hxl:xs.length<=301:=by have h1:=congrArg List.length i2.keys;rw[length_map] at h1;have h2:=yy aL.length ((fp cols (aL++aM.flatMap Tr.args) rows).map λ l=>l.take aL.length);rw[length_map] at h2;omega
  obtain⟨LA,lc,hlv,_,SZ⟩:=wK l2;rw[length_map] at hlv;have pO:∀x∈xs,∀s∈x.ss,(s.Ok/\s.all < 4611686018427387904)/\∃v e,gK s v e:=λ x hx s hs=>by rw[i2.qK x hx] at hs;exact uW (λ op ho=>by obtain⟨t,ht,rfl⟩:=List.mem_map.1 ho;exact hagg t ht) (by unfold gu;rw[length_map];omega) s hs
  refine abw xs w.heap.size LA lc gb T3 s1 s2 (s3.trans hlv) [] W2 _ k2 SZ ?_ x2 WC ?_ (λ x hx s hs=>⟨(pO x hx s hs).1.1,(pO x hx s hs).2⟩) ?_
  ·intro a ha e;have:lv2.ownBlock=some gb:=by rw[hlv,fC,ha,<- e];rfl
   exact l2.other k2 Taa this
  ·intro x hx;refine⟨?_,?_⟩
   ·have:=si (by rw[<- i2.keys];exact mem_map_of_mem hx);omega
   ·rw[i2.qK x hx,nD,length_map];omega
  ·intro a W ov cl e1 e2 e3 o3 m3 r3 g3;have hb3:aj w W:=dy b2 g3 g1;refine⟨e1,_,M7 e2 e3,hb3,?_⟩;rw[acL hz i2];by_cases he:qF xs=0
   ·rw[if_neg (by simp[he]),he];exact⟨_,cl,rfl,o3.down b2.size,λ r hr=>(m3 r hr).down b2.size,r3 he⟩
   ·rw[if_pos he];exact⟨he,_,rfl⟩
variable{op:Int}{args:List Tr}
theorem Wf(h:(fY cols op args).2=0):args.length<=2:=by
 unfold fY at h;split at h
 ·rename_i h1;exact absurd h h1
 ·unfold jD at h;split at h
  ·cases h
  ·rename_i h2;rw[length_map,Tr.pk] at h2;have h2:(args.length:Int)=iA op:=Decidable.byContradiction h2;rcases Lr (op:=op)with e | e | e <;> omega
def oM (s:dE):Prop:=∀a∈s.aM,a.args.length<=2
mutual
theorem Tr.Np (aL:List Tr)(cols:List aZ):∀(t:Tr) (s:dE) (y:Tr) (s':dE),t.turn aL cols s=.ok (y,s')->oM s->oM s'
 | .mk op v name width args,s,y,s',h,hs=>by
   unfold Tr.turn at h;split at h
   ·injection h with h;injection h with h1 h2;rw[<- h2];exact hs
   ·split at h
    ·rename_i hop;split at h
     ·cases h
     ·rename_i hty;injection h with h;injection h with h1 h2;rw[<- h2];intro a ha;rcases List.mem_append.1 ha with ha | ha
      ·exact hs a ha
      ·rw[mem_singleton] at ha;rw[ha];have h9:=Wf (cols:=cols) (op:=op) (args:=args) (Decidable.byContradiction hty);exact h9
    ·split at h
     ·cases h
     ·rename_i ys s1 h1;split at h
      ·cases h
      ·split at h
       ·cases h
       ·injection h with h;injection h with h3 h4;rw[<- h4];exact Tr.GZ aL cols args s ys s1 h1 hs
theorem Tr.GZ (aL:List Tr)(cols:List aZ):∀(ts:List Tr) (s:dE) (ys:List Tr) (s':dE),Tr.turns aL cols ts s=.ok (ys,s')->oM s->oM s'
 | [],s,ys,s',h,hs=>by unfold Tr.turns at h;injection h with h;injection h with h1 h2;rw[<- h2];exact hs
 | t::ts,s,ys,s',h,hs=>by
   unfold Tr.turns at h;split at h
   ·cases h
   ·rename_i y s1 h1;split at h
    ·cases h
    ·rename_i Xb s2 h2;injection h with h;injection h with h3 h4;rw[<- h4];exact Tr.GZ aL cols ts s1 Xb s2 h2 (Tr.Np aL cols t s y s1 h1 hs)
end
variable{y:Tr}{k:Int}{s':dE}
theorem JL{t:Tr}    (h:pB g aL cols t s=.ok (y,k,s'))(hs:oM s):oM s':=by
 unfold pB at h;split at h
 ·exact Zgq
 ·split at h
  ·cases h
  ·rename_i y1 s1 h1;split at h
   ·cases h
   ·injection h with h;injection h with h2 h;injection h with h3 h4;rw[<- h4];exact Tr.Np aL cols t s y1 s1 h1 hs
theorem Ha:∀ {l:List (Tr×ByteArray)} {s:dE} {ys:List Tr} {hd:List aZ} {s':dE},dT g aL cols l s=.ok (ys,hd,s')->oM s->oM s'
 | [],s,ys,hd,s',h,hs=>by unfold dT at h;injection h with h;injection h with h1 h;injection h with h2 h3;rw[<- h3];exact hs
 |(t,nm)::l,s,ys,hd,s',h,hs=>by
  unfold dT at h;split at h
  ·cases h
  ·rename_i y k s1 h1;split at h
   ·cases h
   ·rename_i Xb NF s2 h2;injection h with h;injection h with h3 h;injection h with h4 h5;rw[<- h5];exact Ha h2 (JL h1 hs)
theorem DN:∀ {l:List Tr} {s:dE} {ys:List Tr} {s':dE},dB g aL cols l s=.ok (ys,s')->oM s->oM s'
 | [],s,ys,s',h,hs=>by unfold dB at h;injection h with h;injection h with h1 h2;rw[<- h2];exact hs
 | t::l,s,ys,s',h,hs=>by
   unfold dB at h;split at h
   ·cases h
   ·rename_i y k s1 h1;split at h
    ·cases h
    split at h
    ·cases h
    ·rename_i Xb s2 h2;injection h with h;injection h with h3 h4;rw[<- h4];exact DN h2 (JL h1 hs)
theorem Hb:∀ {l:List (Tr×Bool)} {s:dE} {ys:List Tr} {s':dE},eu g aL cols l s=.ok (ys,s')->oM s->oM s'
 | [],s,ys,s',h,hs=>by unfold eu at h;injection h with h;injection h with h1 h2;rw[<- h2];exact hs
 |(t,d)::l,s,ys,s',h,hs=>by
  unfold eu at h;split at h
  ·cases h
  ·rename_i y k s1 h1;split at h
   ·cases h
   ·rename_i Xb s2 h2;injection h with h;injection h with h3 h4;rw[<- h4];exact Hb h2 (JL h1 hs)
theorem zg3.KbI(h:p:=by exact Hb h3 (DN h2 (Ha h1 (λ a ha=>by cases ha)))):p:=h
theorem M8{p:ji}(h:ew q cols=.ok p):oM p.st:=by
 open zg3 in exact ZeA
theorem Nq:∀ {l:List (Tr×ByteArray)} {s:dE} {ys:List Tr} {hd:List aZ} {s':dE},dT g aL cols l s=.ok (ys,hd,s')->Tr.cP (l.map (·.1))->Tr.cP s.aM->Tr.cP ys/\Tr.cP s'.aM/\hd.length=l.length/\s'.aL.length+s'.aM.length<=s.aL.length+s.aM.length+2*Tr.aY (l.map (·.1))
 | [],s,ys,hd,s',h,_,hs=>by unfold dT at h;injection h with h;injection h with h1 h;injection h with h2 h3;subst h1 h2 h3;exact⟨by unfold Tr.cP;trivial,hs,rfl,by omega⟩
 |(t,nm)::l,s,ys,hd,s',h,ho,hs=>by
  unfold dT at h;rw[map_cons] at ho ⊢;unfold Tr.cP at ho;have hf:=lL g aL cols t s;split at h
  ·cases h
  rename_i y k s1 hy;split at h
  ·cases h
  rename_i Xb NF s2 h2;injection h with h;injection h with h3 h;injection h with h4 h5;subst h3 h4 h5;have e1:=hf.ok _ _ _ hy ho.1;have e2:=hf.aok _ _ _ hy ho.1 hs;have e3:=hf.len _ _ _ hy;obtain⟨f1,f2,f3,f4⟩:=Nq h2 ho.2 e2;have e4:Tr.aY (t::l.map (·.1))=t.nodes+Tr.aY (l.map (·.1)):=by rw[Tr.aY]
  refine⟨by unfold Tr.cP;exact⟨e1,f1⟩,f2,by simp[f3],by rw[e4];omega⟩
theorem Hc:∀ {l:List Tr} {s:dE} {ys:List Tr} {s':dE},dB g aL cols l s=.ok (ys,s')->Tr.cP l->Tr.cP s.aM->Tr.cP ys/\Tr.cP s'.aM/\ys.length=l.length/\s'.aL.length+s'.aM.length<=s.aL.length+s.aM.length+2*Tr.aY l
 | [],s,ys,s',h,_,hs=>by unfold dB at h;injection h with h;injection h with h1 h3;subst h1 h3;exact⟨by unfold Tr.cP;trivial,hs,rfl,by omega⟩
 | t::l,s,ys,s',h,ho,hs=>by
   unfold dB at h;unfold Tr.cP at ho;have hf:=lL g aL cols t s;split at h
   ·cases h
   rename_i y k s1 hy;split at h
   ·cases h
   split at h
   ·cases h
   rename_i Xb s2 h2;injection h with h;injection h with h3 h5;subst h3 h5;have e1:=hf.ok _ _ _ hy ho.1;have e2:=hf.aok _ _ _ hy ho.1 hs;have e3:=hf.len _ _ _ hy;obtain⟨f1,f2,f3,f4⟩:=Hc h2 ho.2 e2;have e4:Tr.aY (t::l)=t.nodes+Tr.aY l:=by rw[Tr.aY]
   refine⟨by unfold Tr.cP;exact⟨e1,f1⟩,f2,by simp[f3],by rw[e4];omega⟩
theorem Nr:∀ {l:List (Tr×Bool)} {s:dE} {ys:List Tr} {s':dE},eu g aL cols l s=.ok (ys,s')->Tr.cP (l.map (·.1))->Tr.cP s.aM->Tr.cP ys/\Tr.cP s'.aM/\ys.length=l.length/\s'.aL.length+s'.aM.length<=s.aL.length+s.aM.length+2*Tr.aY (l.map (·.1))
 | [],s,ys,s',h,_,hs=>by unfold eu at h;injection h with h;injection h with h1 h3;subst h1 h3;exact⟨by unfold Tr.cP;trivial,hs,rfl,by omega⟩
 |(t,b)::l,s,ys,s',h,ho,hs=>by
  unfold eu at h;rw[map_cons] at ho ⊢;unfold Tr.cP at ho;have hf:=lL g aL cols t s;split at h
  ·cases h
  rename_i y k s1 hy;split at h
  ·cases h
  rename_i Xb s2 h2;injection h with h;injection h with h3 h5;subst h3 h5;have e1:=hf.ok _ _ _ hy ho.1;have e2:=hf.aok _ _ _ hy ho.1 hs;have e3:=hf.len _ _ _ hy;obtain⟨f1,f2,f3,f4⟩:=Nr h2 ho.2 e2;have e4:Tr.aY (t::l.map (·.1))=t.nodes+Tr.aY (l.map (·.1)):=by rw[Tr.aY]
  refine⟨by unfold Tr.cP;exact⟨e1,f1⟩,f2,by simp[f3],by rw[e4];omega⟩
theorem Hd:∀ {l:List Tr} {k:Nat} {gc:List aZ},kK cols l k=.ok gc->gc.length=l.length
 | [],k,gc,h=>by unfold kK at h;injection h with h;subst h;rfl
 | t::ts,k,gc,h=>by
   unfold kK at h;split at h
   ·cases h
   split at h
   ·cases h
   rename_i l hg;injection h with h;subst h;rw[length_cons,length_cons,Hd hg]
structure Rk (q:Qy) (p:ji):Prop where
 items:Tr.cP p.items
 having:Tr.cP p.having
 order:Tr.cP p.order
 aM:Tr.cP p.st.aM
 aeO:∀t∈p.st.aM,isAgg t.op=true
 few:∀t∈p.st.aM,t.args.length<=2
 li:p.items.length=q.items.length
 lh:p.having.length=q.ft.length
 lo:p.order.length=q.ord.length
 ln:p.st.aL.length+p.st.aM.length<=q.aL.length+2*Tr.aY (q.items.map (·.1))+2*Tr.aY q.ft+2*Tr.aY (q.ord.map (·.1))
theorem acO{p:ji}(h:ew q cols=.ok p)(h1:Tr.cP (q.items.map (·.1)))(h2:Tr.cP q.ft)(h3:Tr.cP (q.ord.map (·.1))):Rk q p:=by
 obtain⟨_,_,gc,hd,s1,s2,_,hg,hi,hh,ho,_⟩:=Di h;obtain⟨a1,a2,a3,a4⟩:=Nq hi h1 (by unfold Tr.cP;trivial);obtain⟨b1,b2,b3,b4⟩:=Hc hh h2 a2;obtain⟨c1,c2,c3,c4⟩:=Nr ho h3 b2;have Aj:=Hd hg;refine⟨a1,b1,c1,c2,Vh h,M8 h,GG hi,b3,c3,?_⟩;have e:(dE.mk [] gc).aL.length+(dE.mk [] gc).aM.length=q.aL.length:=by rw[<- Aj];rfl
 omega
theorem acP (cols:List aZ)(CA:Option Addr)(cc:Nat)(row:List Val)(RA:Option Addr)(rc:Nat)(ts:List Tr)(ys:List Ex)(A:Option Addr)(c:Nat)(w:World)(cg:cols.length<=140737488355328)(lX:row.length<=140737488355328)(hro:∀v∈row,v.Ok)
  (bh:Tr.cP ts) (hat:Tr.aQ w (Old w) ts ys) (hl:ys.length<=1599289640356) (hA:RE w w.heap.size A ys) (hC:RC w w.heap.size CA cols) (hV:RV w w.heap.size RA row):
  ar 16 #[.slice A ys.length c,.slice CA cols.length cc,.slice RA row.length rc] w λ e w'=>e=.returned (.tuple #[.bool (fI cols ts row).1,af (fI cols ts row).2])/\aj w w':=by
 cases ts with
 | nil=>unfold Tr.aQ at hat;subst hat;refine(XM A c _ _ w).mono ?_;rintro e w' ⟨rfl,rfl⟩;exact⟨rfl,Below.refl _ _⟩
 | cons t ts=>unfold Tr.aQ at hat;obtain⟨y,ys',rfl,h1,_⟩:=hat;unfold Tr.cP at bh;have he:=Tr.Rz cols CA cc row RA rc cg lX hro t y w bh.1 h1 hC hV;exact XL A (y::ys').length c Tac hl y ys' _ _ (t.eval cols row) w hA he
theorem Tp (cols:List aZ)(CA:Option Addr)(cc:Nat)(ts:List Tr)(ys:List Ex)(A:Option Addr)(c:Nat)(rows:List aN)(RA:Option Addr)(rc:Nat)(w:World)(cg:cols.length<=140737488355328)(QD:rows.length<=1000000)(lX:∀r∈rows,r.l.length<=140737488355328/\∀v∈r.l,v.Ok)
  (bh:Tr.cP ts) (hat:Tr.aQ w (Old w) ts ys) (hl:ys.length<=1599289640356) (hA:RE w w.heap.size A ys) (hC:RC w w.heap.size CA cols) (hR:RR w w.heap.size RA rows):
  ar 32 #[.slice A ys.length c,.slice CA cols.length cc,.slice RA rows.length rc] w λ e w'=>∃v,e=.returned (.tuple #[v,af (dx cols ts (rows.map (·.l))).2])/\aI bX 38 1 w' w.heap.size v (jq (fI cols ts) rows)/\aj w w':=by
 have he:(dx cols ts (rows.map (·.l))).2=dp (rows.map λ r=>(fI cols ts r.l).2):=by unfold dx;rw[map_map];rfl
 rw[he];refine YE (.slice A ys.length c) (.slice CA cols.length cc) (fI cols ts) rows RA rc w QD hR λ r hr W hW=>?_
 obtain⟨i,hi,rfl⟩:=getElem_of_mem hr;obtain⟨_,_,_,_,_,hv⟩:=(hR.below hW).at_ hi;exact acP cols CA cc rows[i].l rows[i].A rows[i].c ts ys A c W cg (lX _ hr).1 (lX _ hr).2 bh (Tr.aQ.later hat hW) hl (hA.later hW) (hC.later hW) (hv.more hW.size)
theorem M9 (cols:List aZ)(ts:List Tr)(rows:List aN):(jq (fI cols ts) rows).map (·.l)=(dx cols ts (rows.map (·.l))).1:=by unfold jq dx;dsimp only;rw[filter_map];rfl
variable{cl:List aN}
theorem He{base:Nat}  (h:aI bX 38 1 w base v cl)(hm:∀r∈cl,RV w w.heap.size r.A r.l):∃A c,v=.slice A cl.length c/\RR w w.heap.size A cl:=by
 obtain⟨A,c,hv,hc⟩:=ej (f:=bX) (size:=1) (λ _=>rfl) h;refine⟨A,c,hv,?_⟩;rcases hc with hc |⟨g,hA,hg,hc⟩
 ·exact .inl hc
 ·refine .inr ⟨g,0,hA,hg,λ i r hr=>⟨?_,hm r (mem_of_getElem? hr)⟩⟩;have:=hc i r 0 _ hr WC rfl;exact Zfa
variable{ts:List Tr}{A:Option Addr}{n:Nat}
theorem N0(h:fU w ts A n):∃ys,n=ys.length/\RE w w.heap.size A ys/\Tr.aQ w (Old w) ts ys:=by obtain⟨hn,ys,h1,h2⟩:=h;refine⟨ys,by rw[hn,dY h2],?_,h2⟩;exact Zdn
theorem aih (s:St)(a b:Val):(s.feed a b).a=s.a\/(s.feed a b).a=a:=by
 unfold St.feed St.does St.some_ St.put St.alone St.BD St.take;repeat' split
 all_goals first
  | exact .inl rfl
  | exact .inr rfl
theorem DO:∀(l:List (Val×Val)) (s:St),s.a.Ok->(∀x∈l,x.1.Ok)->(l.foldl (λ s x=>s.feed x.1 x.2) s).a.Ok
 | [],s,hs,_=>hs
 | x::l,s,hs,h=>by
   rw[foldl_cons];refine DO l _ ?_ λ y hy=>h y (mem_cons_of_mem _ hy)
   rcases aih s x.1 x.2 with e | e
   ·rw[e];exact hs
   ·rw[e];exact h x (mem_cons_self ..)
theorem N3{l:List (Val×Val)}(h:∀x∈l,x.1.Ok):(ld op l).a.Ok:=DO l (fh op) dZ h
theorem zgt.Kbt(h:p:=by exact⟨_,λ w=>KS (hi a) (lo a) n q r _ nl c nh c2 hn e0 hs hd (Int.tmod_eq_emod_of_nonneg e0) s1 s2 w,(sJ _).1,(sJ _).2⟩):p:=h
theorem Wh (a n:Int)(ha0:0<=a)(ha1:a < M*M)(hn:0 < n)(vn:n < 512):∃v,Oy a n v/\ -9223372036854775808<=v/\v<=9223372036854775807:=by
 have h0:=sL ha0;have h1:=ady ha1;have l0:=sK a;have l1:=RH a;by_cases hs:(hi a / 9223372036854775808==0)=true
 ·have NC:=Int.emod_nonneg (hi a) (show n≠0 by omega);have Hy:=Int.emod_lt_of_pos (hi a) hn;obtain⟨q,r,hd⟩:=Hz (hi a % n) (lo a) n NC Hy vn l0 l1;exact⟨_,λ w=>KR (hi a) (lo a) n q r _ hn h0 hs hd (Int.tmod_eq_emod_of_nonneg h0) w,(sJ _).1,(sJ _).2⟩
 ·open zgt in exact ZdP
theorem aii{s:St}(ok:s.Ok)(hc:s.count < 512)(ha:s.a.Ok):∃v e,gK s v e/\v.Ok:=by
 have h1:=ok.akv;have h2:=ok.aru;have h3:=ok.xE;unfold gK;split
 ·exact Zh7
 ·split
  ·exact Zh7
  ·split
   ·refine⟨_,_,⟨rfl,rfl⟩,?_⟩;unfold St.total;split
    ·exact dZ
    ·split
     ·show -9223372036854775808<=Fs _/\Fs _<=9223372036854775807;unfold Fs;rw[IntKind.wrap_i64];omega
     ·exact dZ
   ·split
    ·by_cases hz:s.count=0
     ·exact⟨aP,0,⟨.inl ⟨hz,rfl⟩,rfl⟩,dZ⟩
     ·obtain⟨q,hq,q1,q2⟩:=Wh s.sum s.count ok.aao ok.aap WC hc;exact⟨num q,0,⟨.inr ⟨hz,q,hq,rfl⟩,rfl⟩,q1,q2⟩
    ·exact⟨s.a,0,⟨rfl,rfl⟩,ha⟩
theorem acQ{l:List Val}(h:∀v∈l,v.Ok)(i:Nat):(l.getD i aP).Ok:=by
 rw[getD_eq_getElem?_getD]
 cases hj:l[i]? with
 | none=>exact dZ
 | some v=>exact h v (mem_of_getElem? hj)
theorem Hf:∀(ts:List Tr) (l:List Val),(∀v∈l,v.Ok)->∀x∈jE ts l,x.1.Ok
 | [],l,_,x,hx=>by cases hx
 | t::ts,l,h,x,hx=>by
   unfold jE at hx;rcases List.mem_cons.1 hx with rfl | hx
   ·dsimp only;split
    ·exact acQ h 0
    ·exact dZ
   ·exact Hf ts _ (λ v hv=>h v (mem_of_mem_drop hv)) x hx
variable{ng:Nat}{gs:List (List Val)}
theorem Wi{aM:List Tr} {l:List (List Val)}(hagg:∀t∈aM,isAgg t.op=true)(hl:∀r∈l,∀v∈r,v.Ok)(hn:l.length<=300)(h:nj ng aM l=.ok gs):gs.length<=l.length+1/\∀g∈gs,g.length<=ng+aM.length/\∀v∈g,v.Ok:=by
 have hk:(if ng=0 then [[]] else jo ((gu ng aM l).map (·.1)))=fo ng (l.map λ r=>r.take ng):=by unfold fo gu;rw[map_map];rfl
 unfold nj at h;have h:(if dp ((if ng=0 then [[]] else jo ((gu ng aM l).map (·.1))).map λ k=>cN (dW (aM.map Tr.op) (gu ng aM l) k))≠0 then Except.error (dp ((if ng=0 then [[]] else jo ((gu ng aM l).map (·.1))).map λ k=>cN (dW (aM.map Tr.op) (gu ng aM l) k)))else .ok ((if ng=0 then [[]] else jo ((gu ng aM l).map (·.1))).map λ k=>k++(dW (aM.map Tr.op) (gu ng aM l) k).map (·.1)))=.ok gs:=h;rw[hk] at h;split at h
 ·cases h
 ·injection h with h;subst h;refine⟨?_,λ g hg=>?_⟩
  ·rw[length_map];have:=yy ng (l.map λ r=>r.take ng);rwa [length_map] at this
  ·obtain⟨k,hkm,rfl⟩:=List.mem_map.1 hg;have qj:=si hkm;refine⟨?_,λ v hv=>?_⟩
   ·rw[length_append,length_map,ja,length_map,nD,length_map];omega
   ·rcases List.mem_append.1 hv with hv | hv
    ·unfold fo at hkm;split at hkm
     ·rw[mem_singleton] at hkm;rw[hkm] at hv;cases hv
     ·have:=((vZ eD fG _).2 _).1 hkm;obtain⟨r,hr,rfl⟩:=List.mem_map.1 this;exact hl r hr v (mem_of_mem_take hv)
    ·rw[ja,map_map] at hv;obtain⟨s,hs,rfl⟩:=List.mem_map.1 hv;unfold dV at hs;obtain⟨i,hi,rfl⟩:=List.mem_map.1 hs;have hi:i <(aM.map Tr.op).length:=List.mem_range.1 hi
     have hop:isAgg ((aM.map Tr.op).getD i 0)=true:=by
      rw[getD_eq_getElem?_getD,getElem?_eq_getElem hi];have Kg:i < aM.length:=by simpa using hi
      simp only[Option.getD_some,getElem_map];exact hagg _ (getElem_mem Kg)
     have oZ:=hop;unfold isAgg at oZ;simp only[Bool.and_eq_true,decide_eq_true_eq] at oZ;have hlen:(qB i (gu ng aM l) k).length<=300:=by unfold qB;rw[length_map];refine Nat.le_trans (length_filter_le _ _) ?_;unfold gu;rw[length_map];exact hn
     have r:=AG oZ.1 oZ.2 (qB i (gu ng aM l) k);have ok:=E1 oZ.1 oZ.2 r WC;have hcb:=Js ((aM.map Tr.op).getD i 0) (qB i (gu ng aM l) k);have hct:=r.count;refine aaB (aii ok WC (N3 λ x hx=>?_));unfold qB at hx;obtain⟨p,hp,rfl⟩:=List.mem_map.1 hx;have hp:=(List.mem_filter.1 hp).1;unfold gu at hp;obtain⟨q,hq,rfl⟩:=List.mem_map.1 hp;dsimp only;rw[getD_eq_getElem?_getD]
     cases hj:(jE aM (q.drop ng))[i]? with
     | none=>exact dZ
     | some y=>exact Hf aM (q.drop ng) (λ v hv=>hl q hq v (mem_of_mem_drop hv)) y (mem_of_getElem? hj)
theorem acR{aM:List Tr}   (hagg:∀t∈aM,isAgg t.op=true)(Jt:Tr.cP (aL++aM.flatMap Tr.args))(hr:∀r∈rows,∀v∈r.l,v.Ok)(hn:rows.length<=300)(h:xe aL aM cols (rows.map (·.l))=.ok gs):gs.length<=rows.length+1/\∀g∈gs,g.length<=aL.length+aM.length/\∀v∈g,v.Ok:=by
 rw[DM] at h;split at h
 ·cases h
 ·have hl:=uX cols (aL++aM.flatMap Tr.args) rows;obtain⟨h1,h2⟩:=Wi hagg (λ r hrm=>by
   obtain⟨x,hx,he⟩:=Vw hrm
   exact Dm (hr x hx) Jt he) WC h
  exact⟨by omega,h2⟩
theorem xf{base:Nat}  {l:List aZ}(h:aI aU 113 2 w base v l):∃A c,v=.slice A l.length c/\RC w w.heap.size A l:=by
 obtain⟨A,c,hv,hc⟩:=ej (f:=aU) (size:=2) (λ _=>rfl) h;refine⟨A,c,hv,?_⟩;rcases hc with hc |⟨g,hA,hg,hc⟩
 ·exact .inl hc
 ·refine .inr ⟨g,0,hA,hg,λ i x hx=>?_⟩;have h0:=hc i x 0 _ hx WC rfl;have h1:=hc i x 1 _ hx WC rfl;unfold mW;rw[Nat.zero_add];exact⟨by simpa using h0,h1⟩
structure PlE (w:World) (gp:Nat) (q:Qy) (L:QL) (p:ji) (cols:List aZ) (CA:Option Addr) (cc:Nat) (yg ya yi yh yo:List Ex) (AA:Option Addr) (ac:Nat) (VA:Option Addr) (vc:Nat) (HA:Option Addr) (hc:Nat) (IA:Option Addr) (ic:Nat) (JA:Option Addr) (jc:Nat) (DA:Option Addr) (dc:Nat):Prop where
 blk:∃cs,aC w gp 81 cs
 gr:Dn w gp q.aL p.st.aM cols yg ya L.g.A L.g.c CA cc AA ac
 ops:ya.map Ex.op=p.st.aM.map Tr.op
 c10:w.cell? ⟨gp,10,none⟩=some (.slice VA p.st.aL.length vc)
 rv:RC w w.heap.size VA p.st.aL
 c11:w.cell? ⟨gp,11,none⟩=some (.bool q.aK)
 c12:w.cell? ⟨gp,12,none⟩=some (.slice HA p.head.length hc)
 c14:w.cell? ⟨gp,14,none⟩=some (.slice JA yh.length jc)
 rj:RE w w.heap.size JA yh
 tj:Tr.aQ w (Old w) p.having yh
 c13:w.cell? ⟨gp,13,none⟩=some (.slice IA yi.length ic)
 ri:RE w w.heap.size IA yi
 ti:Tr.aQ w (Old w) p.items yi
 c15:w.cell? ⟨gp,15,none⟩=some (.slice DA yo.length dc)
 ro:RE w w.heap.size DA yo
 eE:Tr.aQ w (Old w) p.order yo
 c6:w.cell? ⟨gp,6,none⟩=some (.slice L.o.A L.o.n L.o.c)
section
variable {w w':World} {gp:Nat} {q:Qy} {L:QL} {p:ji} {cols:List aZ} {CA:Option Addr} {cc:Nat} {yg ya yi yh yo:List Ex} {AA:Option Addr} {ac:Nat} {VA:Option Addr} {vc:Nat} {HA:Option Addr} {hc:Nat} {IA:Option Addr} {ic:Nat} {JA:Option Addr} {jc:Nat} {DA:Option Addr} {dc:Nat}
theorem PlE.later (h:PlE w gp q L p cols CA cc yg ya yi yh yo AA ac VA vc HA hc IA ic JA jc DA dc)(hb:aj w w'):PlE w' gp q L p cols CA cc yg ya yi yh yo AA ac VA vc HA hc IA ic JA jc DA dc:=by
 have hl:=h.gr.lt;have hc:=λ i=>hb.cell (p:=⟨gp,i,none⟩) hl
 obtain⟨cs,hcs⟩:=h.blk;exact⟨⟨cs,hcs.later hb⟩,h.gr.later hb,h.ops,(hc 10).trans h.c10,h.rv.later hb,(hc 11).trans h.c11,(hc 12).trans h.c12,(hc 14).trans h.c14,h.rj.later hb,Tr.aQ.later h.tj hb,(hc 13).trans h.c13,h.ri.later hb,Tr.aQ.later h.ti hb,(hc 15).trans h.c15,h.ro.later hb,Tr.aQ.later h.eE hb,(hc 6).trans h.c6⟩
theorem PlE.run (h:PlE w gp q L p cols CA cc yg ya yi yh yo AA ac VA vc HA hc IA ic JA jc DA dc) {over:List aZ} {OA:Option Addr}(ho:RC w w.heap.size OA over):Nj w gp p.items p.order over yi yo IA ic DA dc OA:=
 ⟨h.gr.lt,h.c13,h.c15,h.ri,h.ti,h.ro,h.eE,ho⟩
end
variable{S:Nat->Prop}
theorem Tq:∀ {ts:List Tr} {ys:List Ex},Tr.aQ w S ts ys->ys.map Ex.op=ts.map Tr.op
 | [],ys,h=>by unfold Tr.aQ at h;rw[h];rfl
 | t::ts,ys,h=>by unfold Tr.aQ at h;obtain⟨y,ys',rfl,h1,h2⟩:=h;obtain⟨op,v,name,width,args⟩:=t;unfold Tr.at_ at h1;rw[map_cons,map_cons,Tq h2,h1.1];rfl
variable{r:Rest}{u:Value}{ya yi yh yo:List Ex}
theorem N6{p:ji}(hP:aeM (Av q L CA cc cols) w0 w gp r u v ya yi yh yo p)(hq:DJ (Av q L CA cc cols) w0 q L cols):
  ∃yg AA ac VA vc HA hc IA ic JA jc DA dc,PlE w gp q L p cols CA cc yg ya yi yh yo AA ac VA vc HA hc IA ic JA jc DA dc/\aI aU 113 2 w w0.heap.size (.slice HA p.head.length hc) p.head:=by obtain⟨AA,ac,hu,hra⟩:=sj hP.o0;obtain⟨VA,vc,hv,tO⟩:=xf hP.o1;obtain⟨HA,hc,hh,hrh⟩:=xf hP.o2;obtain⟨IA,ic,hi,hri⟩:=sj hP.o3;obtain⟨JA,jc,hj,hrj⟩:=sj hP.o4;obtain⟨DA,dc,hd,fy⟩:=sj hP.o5;obtain⟨yg,hyn,hyr,VQ⟩:=N0 hq.ig;have k1:=hP.blk;unfold PC.cells at k1;have c4:=k1.cell 4;have c6:=k1.cell 6;have c8:=k1.cell 8;have c9:=k1.cell 9;have c10:=k1.cell 10;have c11:=k1.cell 11;have c12:=k1.cell 12;have Xn:=k1.cell 13;have c14:=k1.cell 14;have c15:=k1.cell 15;simp only[Uaa] at c4 c6 c8 c9 c10 c11 c12 Xn c14 c15;have c4:w.cell? ⟨gp,4,none⟩=some (.slice L.g.A L.g.n L.g.c):=c4;rw[hyn] at c4;rw[hu] at c9;rw[hv] at c10;rw[hh] at c12;rw[hi] at Xn;rw[hj] at c14;rw[hd] at c15;refine⟨yg,AA,ac,VA,vc,HA,hc,IA,ic,JA,jc,DA,dc,⟨⟨_,hP.blk⟩,⟨k1.lt,c4,c8,c9,hyr.later hP.base,Tr.aQ.later VQ hP.base,hra,Tr.aQ.later hP.aM hP.base,hq.ok.cols.later hP.base⟩,Tq hP.aM,c10,tO,c11,c12,c14,hrj,hP.t4,Xn,hri,hP.t3,c15,fy,hP.t5,c6⟩,hh▸hP.o2⟩
noncomputable def lj (q:Qy) (p:ji) (cols:List aZ) (e0:Int) (rows:List (List Val)):Except Int (List (List Val)):=
 if e0≠0 then .error e0 else if p.aK=false then .ok rows else match xe q.aL p.st.aM cols rows with
 | .error e=> .error e
 | .ok gs=>if (dx p.st.aL p.having gs).2≠0 then .error (dx p.st.aL p.having gs).2 else .ok (dx p.st.aL p.having gs).1
theorem N7 (q:Qy)(p:ji)(cols:List aZ)(rows:List (List Val)):zh q p cols rows=lj q p cols (dx cols q.cK rows).2 (dx cols q.cK rows).1:=by
 unfold zh lj xe;split
 ·rfl
 ·split
  ·rfl
  ·cases BS ((dx cols q.cK rows).1.map λ r=>bz cols r (q.aL++p.st.aM.flatMap Tr.args))<;> rfl
theorem zeJ.KaU(h:p:=by
 clear hh hO hE HX;simp only[ez,fA,Tryz.f11,Option.getD_some];refine wp_seq_k λ K hK=>?_
 have DY:=aa hK;clear hK;by_cases h:er=0
 ·have t1:(er != 0)=false:=by simp[h]
  have H:=aa h;clear h;go_wp2_with fail;exact DY.ae _ _ (HO.ae H.ae _ rfl rfl rfl rfl rfl rfl)
 ·have t1:(er != 0)=true:=by simp[h]
  have H:=aa h;clear h;go_wp2_with fail;have hs:=pY HK.ae;exact HE.ae H.ae _ _ rfl rfl rfl (((HK.ae.aW 0 _).aW 1 _).aW 2 _) hs):p:=h
theorem zig.Kcb(h:p:=by
 have hh:=λ h0 (T':Array Value) a0 a1 a2 a3 a4 a5=>hO h0 T' a0 a1 a2 a3 a4 a5
 simp only[ez,fA,Tryz.f11,Option.getD_some] at hh;have HO:=aa hh;have HE:=aa hE;have HK:=aa HX;open zeJ in exact Zb5):p:=h
theorem N8 (g3 g6 gp:Nat)(er:Int)(lv ov:Value)(T:Array Value)(hT:T.size=183)(h3:T.getD 3 undef=aw g3)(h6:T.getD 6 undef=aw g6)(h8:T.getD 8 undef=aw gp)(h9:T.getD 9 undef=af er)(h10:T.getD 10 undef=lv)(h11:T.getD 11 undef=ov)(d:List Deferred)(w:World)(Q:Exit->Act->World->Prop)
  (HX:aC w g6 33 #[az,az,af 0])
  (hE:er≠0->∀a W,a.defers=d->a.tmps.getD 6 undef=aw g6->a.tmps.getD 7 undef=af er->aC W g6 33 #[az,az,af 0]->aj w W->Q .ret a W)
  (hO:er=0->∀T':Array Value,T'.size=183->T'.getD 3 undef=aw g3->T'.getD 6 undef=aw g6->T'.getD 8 undef=aw gp->T'.getD 10 undef=lv->T'.getD 11 undef=ov->(fA ez 8).wp Tryz.prog Q { tmps:=T',defers:=d } w):
  (fA ez 7).wp Tryz.prog Q { tmps:=T,defers:=d } w:=by
 open zig in exact Zfx
def xg (w:World)(r:aN):Prop:=RV w w.heap.size r.A r.l/\r.l.length<=1000/\∀v∈r.l,v.Ok
theorem xg.later{r:aN}(h:xg w r)(hb:aj w w'):xg w' r:=⟨h.1.later hb,h.2⟩
theorem zdN.KaH(h:p:=by
 have HP:=aa DS;have c11:=hF.c11;clear aij hE hO hF ih q1 q2 q3 q4 q5 AP Aj fq hlv hz Ny DS;simp only[ez,fA,Tryz.f11,Option.getD_some];refine wp_seq_k λ K hK=>?_
 have DY:=aa hK;clear hK;by_cases h:e0=0
 ·subst h;obtain⟨gd,hgd⟩:∃gd,gd=q.aK:=⟨_,rfl⟩;rw[<- hgd] at c11;have NQ:=aa hgd;clear hgd
  cases gd with
  | false=>have D9:=aa (show lj q p cols 0 (rows.map (·.l))=.ok (rows.map (·.l)) by unfold lj;rw[if_neg Taa,if_pos (Q1.ae.trans NQ.ae.symm)]);have HOV:=aa (show fZ p cols=cols by unfold fZ;rw[if_neg TaV]);go_wp2_with fail;refine DY.ae _ _ (HCK.ae 0 _ _ _ rfl rfl rfl rfl rfl rfl rfl w Q Ay.ae (λ KK=>absurd rfl KK) λ _ T' a0 a1 a2 a3 a4 a5=>?_);have ho:=HOL.ae _ D9.ae T' w rows EA ec CA cc a0 a1 a2 a3 a4 (by rw[HOV.ae];exact a5) (Below.refl _ _) HP.ae rfl jH.ae (by have:=B9.ae;omega) (by rw[HOV.ae];exact HF.ae.gr.rc);exact ho
  | true=>
    have c10:=HF.ae.c10;go_wp2_with fail;clear c10 c11
    have aeQ:Tr.cP (q.aL++p.st.aM.flatMap Tr.args):=by
     rw[dN];intro t ht;rcases List.mem_append.1 ht with ht | ht
     ·exact dN.1 HH.ae t ht
     ·obtain⟨a,ha,hta⟩:=List.mem_flatMap.1 ht;have:=dN.1 IH.ae.aM a ha;obtain⟨op,v,name,width,args⟩:=a;unfold Tr.ok at this;exact dN.1 this.2.2.2.2.2 t hta
    have apf:=aa aeQ;clear aeQ;refine(Rj gp q.aL p.st.aM cols yg ya L.g.A L.g.c CA cc AA ac rows EA ec w HF.ae.gr HF.ae.ops IH.ae.aeO IH.ae.few apf.ae Q3.ae (by have:=Q4.ae;omega) (by have:=oQ.ae;omega) HP.ae B9.ae (λ r hr=>⟨by have:=(jH.ae r hr).2.1;omega,(jH.ae r hr).2.2⟩)).mono ?_;rintro e w2 ⟨b2,hm⟩;have fH:=aa b2;clear b2;have HGI:=aa (λ gs=>acR (cols:=cols) (gs:=gs) IH.ae.aeO apf.ae (λ r hr=>(jH.ae r hr).2.2) B9.ae)
    cases hgr:xe q.aL p.st.aM cols (rows.map (·.l))with
    | error er=>
      rw[hgr] at hm;obtain⟨hne,v,rfl⟩:=hm;have t1:(er==0)=false:=by simp[hne]
      have D9:=aa (show lj q p cols 0 (rows.map (·.l))=.error er by unfold lj;rw[if_neg Taa,if_neg TaV,hgr]);have nV:=aa hne;clear hgr hne;go_wp2_with fail;have Kx:=HE.ae er D9.ae nV.ae;refine DY.ae _ _ (HCK.ae er _ _ _ rfl rfl rfl rfl rfl rfl rfl w2 Q (Ay.ae.later fH.ae) (λ _ a W e1 e2 e3 k6 bW=>Kx a W e1 e2 e3 k6 (Below.trans fH.ae (bW.mono fH.ae.size))) λ KK=>absurd KK nV.ae)
    | ok gs=>
      rw[hgr] at hm;obtain⟨v,cl,rfl,ho,hmi,Cp⟩:=hm;have hgi:=HGI.ae gs hgr;have D9:=aa (show lj q p cols 0 (rows.map (·.l))=if (dx p.st.aL p.having gs).2≠0 then .error (dx p.st.aL p.having gs).2 else .ok (dx p.st.aL p.having gs).1 by unfold lj;rw[if_neg Taa,if_neg TaV,hgr]);obtain⟨A2,c2,hv2,hr2⟩:=SN ho hmi;subst hv2;have Wj:=aa (HF.ae.later fH.ae);have c14:=Wj.ae.c14;have hcn:cl.length<=301:=by have h1:=congrArg List.length Cp;rw[length_map] at h1;have h2:=hgi.1;have h3:=B9.ae;omega
      have acW:∀r∈cl,xg w2 r:=λ r hr=>by
       have hx:r.l∈gs:=by rw[<- Cp];exact mem_map_of_mem hr
       obtain⟨x1,x2⟩:=hgi.2 _ hx;obtain⟨A3,c3,e3,h3⟩:=Hr (hmi r hr);unfold aN.v at e3;injection e3 with e3;refine⟨by rw[e3];exact h3,by have:=Q4.ae;omega,x2⟩
      have HRI:=aa acW;have HCN:=aa hcn;have WV:=aa hr2;have auI:=aa Cp;have HMI:=aa hmi;clear hgr hgi hcn acW hr2 Cp hmi ho HGI;go_wp2_with fail;clear c14;have hyl:yh.length=p.having.length:=(dY Wj.ae.tj).symm;refine(Tp p.st.aL VA vc p.having yh JA jc cl A2 c2 w2 (by have:=Q5.ae;omega) (by have:=HCN.ae;omega) (λ r hr=>⟨by have:=(HRI.ae r hr).2.1;omega,(HRI.ae r hr).2.2⟩) IH.ae.having Wj.ae.tj (by rw[hyl];have:=ZV.ae;omega) Wj.ae.rj Wj.ae.rv WV.ae).mono ?_;rintro e w3 ⟨v3,rfl,ho3,b3⟩;have WM:=aa (M9 p.st.aL p.having cl);have LG:fZ p cols=p.st.aL:=by unfold fZ;rw[if_pos (by rw[Q1.ae,<- NQ.ae])]
      have HOV:=aa LG;have TJ:=aa ho3;have tP:=aa b3;rw[auI.ae] at WM ⊢;have N9:∀r∈jq (fI p.st.aL p.having) cl,xg w3 r:=λ r hr=>(HRI.ae r (List.mem_filter.1 hr).1).later tP.ae
      have zQ:(jq (fI p.st.aL p.having) cl).length<=301:=Nat.le_trans (length_filter_le _ _) HCN.ae;obtain⟨A4,c4,hv4,hr4⟩:=He TJ.ae λ r hr=>(N9 r hr).1
      subst hv4;have HR4:=aa hr4;have auJ:=aa N9;have HKN:=aa zQ;obtain⟨e3,he3⟩:∃e3,e3=(dx p.st.aL p.having gs).2:=⟨_,rfl⟩;rw[<- he3] at D9 ⊢;have HE3:=aa he3;clear ho3 b3 LG N9 zQ hr4 he3 hyl;by_cases Kx:e3=0
      ·have HZ:=aa Kx;have ail:=aa (show lj q p cols 0 (rows.map (·.l))=.ok (dx p.st.aL p.having gs).1 by rw[D9.ae,if_neg (by simp[Kx])]);clear Kx;go_wp2_with fail;refine DY.ae _ _ (HCK.ae e3 _ _ _ rfl rfl rfl rfl rfl rfl rfl w3 Q ((Ay.ae.later fH.ae).later tP.ae) (λ KK=>absurd HZ.ae KK) λ _ T' a0 a1 a2 a3 a4 a5=>?_);have kE:=Below.trans fH.ae (tP.ae.mono fH.ae.size);have ho:=HOL.ae _ ail.ae T' w3 (jq (fI p.st.aL p.having) cl) A4 c4 VA vc a0 a1 a2 a3 a4 (by rw[HOV.ae];exact a5) kE HR4.ae WM.ae auJ.ae HKN.ae (by rw[HOV.ae];exact(Wj.ae.later tP.ae).rv);exact ho
      ·have HZ:=aa Kx;have ail:=aa (show lj q p cols 0 (rows.map (·.l))=.error e3 by rw[D9.ae,if_pos Kx]);clear Kx;go_wp2_with fail;have hx:=HE.ae e3 ail.ae HZ.ae;refine DY.ae _ _ (HCK.ae e3 _ _ _ rfl rfl rfl rfl rfl rfl rfl w3 Q ((Ay.ae.later fH.ae).later tP.ae) (λ _ a W e1 e2 e3 k6 bW=>hx a W e1 e2 e3 k6 (Below.trans fH.ae ((Below.trans tP.ae (bW.mono tP.ae.size)).mono fH.ae.size))) λ KK=>absurd KK HZ.ae)
 ·have D9:=aa (show lj q p cols e0 (rows.map (·.l))=.error e0 by unfold lj;rw[if_pos h]);have t1:(e0==0)=false:=by simp[h]
  have H:=aa h;clear h;go_wp2_with fail;have Kx:=HE.ae e0 D9.ae H.ae;exact DY.ae _ _ (HCK.ae e0 _ _ _ rfl rfl rfl rfl rfl rfl rfl w Q Ay.ae (λ _ a W e1 e2 e3 k6 bW=>Kx a W e1 e2 e3 k6 bW) λ KK=>absurd KK H.ae)):p:=h
theorem zih.Kcb(h:p:=by
 have aij:=λ(er:Int) (lv ov:Value) T hT a0 a1 a2 a3 a4 a5 w Q=>N8 g3 g6 gp er lv ov T hT a0 a1 a2 a3 a4 a5 d w Q
 have HO:=aa hO;simp only[ez,fA,Tryz.f11,Option.getD_some] at aij hO;have HCK:=aa aij;have HOL:=aa hO;have HE:=aa hE;open zdN in exact Zbm):p:=h
theorem acS (w0:World)(g3 g6 gp:Nat)(q:Qy)(L:QL)(p:ji)(cols:List aZ)(CA:Option Addr)(cc:Nat)(yg ya yi yh yo:List Ex)(AA:Option Addr)(ac:Nat)(VA:Option Addr)(vc:Nat)(HA:Option Addr)(hc:Nat)(IA:Option Addr)(ic:Nat)(JA:Option Addr)(jc:Nat)(DA:Option Addr)(dc:Nat)(e0:Int)(rows:List aN)(base:Nat)(lv:Value)(T:Array Value)(hT:T.size=183)(h3:T.getD 3 undef=aw g3)(h6:T.getD 6 undef=aw g6)(h8:T.getD 8 undef=aw gp)(h9:T.getD 9 undef=af e0)(h10:T.getD 10 undef=lv)(h11:T.getD 11 undef=.slice CA cols.length cc)(d:List Deferred)(w:World)(Q:Exit->Act->World->Prop)
  (hF:PlE w gp q L p cols CA cc yg ya yi yh yo AA ac VA vc HA hc IA ic JA jc DA dc) (ih:Rk q p) (q1:p.aK=q.aK) (q2:Tr.cP q.aL) (q3:q.aL.length<=1000) (q4:q.aL.length+p.st.aM.length<=1000) (q5:p.st.aL.length<=100000) (AP:cols.length<=100000) (Aj:p.having.length<=100000)
  (fq:aC w g6 33 #[az,az,af 0]) (hlv:aI bX 38 1 w base lv rows) (hz:∀r∈rows,xg w r) (Ny:rows.length<=300)
  (hE:∀er,lj q p cols e0 (rows.map (·.l))=.error er->er≠0->∀a W,a.defers=d->a.tmps.getD 6 undef=aw g6->a.tmps.getD 7 undef=af er->aC W g6 33 #[az,az,af 0]->aj w W->Q .ret a W)
  (hO:∀left,lj q p cols e0 (rows.map (·.l))=.ok left->∀(T':Array Value) W (rows':List aN) EA ec OA oc,T'.size=183->T'.getD 3 undef=aw g3->T'.getD 6 undef=aw g6->T'.getD 8 undef=aw gp->T'.getD 10 undef=.slice EA rows'.length ec->T'.getD 11 undef=.slice OA (fZ p cols).length oc->aj w W->RR W W.heap.size EA rows'->rows'.map (·.l)=left->(∀r∈rows',xg W r)->rows'.length<=301->RC W W.heap.size OA (fZ p cols)->(fA ez 8).wp Tryz.prog Q { tmps:=T',defers:=d } W):
  (fA ez 6).wp Tryz.prog Q { tmps:=T,defers:=d } w:=by
 obtain⟨EA,ec,acU,DS⟩:=He hlv λ r hr=>(hz r hr).1
 subst acU;open zih in exact Zfx
theorem O0 (p:ji)(cols:List aZ)(rows:List aN):rG p cols (rows.map (·.l))=if ea (fZ p cols) (p.items++p.order) rows≠0 then .error (ea (fZ p cols) (p.items++p.order) rows)else .ok (wX p.items p.order (fZ p cols) rows):=by
 have e1:((rows.map (·.l)).map (MP p (fZ p cols))).map exE=rows.map λ r=>nG (bz (fZ p cols) r.l (p.items++p.order)):=by
  rw[map_map,map_map];refine map_congr_left λ r _=>?_
  show exE (MP p (fZ p cols) r.l)=_;unfold MP;cases bz (fZ p cols) r.l (p.items++p.order)<;> rfl
 have e2:((rows.map (·.l)).map (MP p (fZ p cols))).filterMap uI=wX p.items p.order (fZ p cols) rows:=by unfold wX;rw[map_map,filterMap_map];congr 1
 rw[Vv,MO,e1,e2];rfl
noncomputable def xh (q:Qy) (p:ji) (cols:List aZ) (e0:Int) (rows:List (List Val)):Except Int (List (List Val)):=match lj q p cols e0 rows with
 | .error e=> .error e
 | .ok left=>match rG p cols left with
   | .error e=> .error e
   | .ok ls=> .ok ((match q.lim with | []=>mh (q.ord.map λ o:Tr×Bool=>o.2) ls | n::_=>(mh (q.ord.map λ o:Tr×Bool=>o.2) ls).take n.toNat).map eI.row)
theorem acX (q:Qy)(cols:List aZ)(rows:List (List Val)):pD q cols rows=match ew q cols with
 | .error e=> .error e
 | .ok p=>if rows.any (λ r=> !ib cols r)=true then .error 40 else match xh q p cols (dx cols q.cK rows).2 (dx cols q.cK rows).1 with
   | .error e=> .error e
   | .ok la=> .ok (p.head,la):=by
 unfold pD xh
 cases ew q cols with
 | error e=>rfl
 | ok p=>
   dsimp only;split
   ·rfl
   ·rw[N7]
    cases lj q p cols (dx cols q.cK rows).2 (dx cols q.cK rows).1 with
    | error e=>rfl
    | ok left=>dsimp only;cases rG p cols left <;> rfl
theorem O1 (w0:World)(g3 g6 gp:Nat)(q:Qy)(L:QL)(p:ji)(cols:List aZ)(CA:Option Addr)(cc:Nat)(yg ya yi yh yo:List Ex)(AA:Option Addr)(ac:Nat)(VA:Option Addr)(vc:Nat)(HA:Option Addr)(hc:Nat)(IA:Option Addr)(ic:Nat)(JA:Option Addr)(jc:Nat)(DA:Option Addr)(dc:Nat)(e0:Int)(rows:List aN)(base:Nat)(lv:Value)(T:Array Value)(hT:T.size=183)(h3:T.getD 3 undef=aw g3)(h6:T.getD 6 undef=aw g6)(h8:T.getD 8 undef=aw gp)(h9:T.getD 9 undef=af e0)(h10:T.getD 10 undef=lv)(h11:T.getD 11 undef=.slice CA cols.length cc)(d:List Deferred)(w:World)(Q:Exit->Act->World->Prop)
  (hPE:PlE w gp q L p cols CA cc yg ya yi yh yo AA ac VA vc HA hc IA ic JA jc DA dc) (AB:Rk q p) (Sr:p.aK=q.aK) (hgo:Tr.cP q.aL) (hng:q.aL.length<=1000) (hsm:q.aL.length+p.st.aM.length<=1000) (Aj:p.st.aL.length<=100000) (cg:cols.length<=100000) (hyh:p.having.length<=100000)
  (Ny:q.items.length<=1000) (fK:q.ord.length<=1000)
  (uJ:eQ w0 (q.ord.map λ x=>(x.1,Value.bool x.2)) L.o.A L.o.n) (pX:L.l.n=q.lim.length/\Ui w0 w0.heap.size L.l.A q.lim) (hlm:∀n∈q.lim,0<=n/\n<=9223372036854775807) (fq:q.lim.length<=1) (hb0:aj w0 w) (hg3:aC w g3 27 (fW q L))
  (rZ:aC w g6 33 #[az,az,af 0]) (auL:w0.heap.size<=g6) (hlv:aI bX 38 1 w base lv rows) (sw:∀r∈rows,xg w r) (QD:rows.length<=300)
  (hE:∀er,xh q p cols e0 (rows.map (·.l))=.error er->er≠0->∀a W,a.defers=d->a.tmps.getD 6 undef=aw g6->a.tmps.getD 7 undef=af er->aC W g6 33 #[az,az,af 0]->aj w0 W->Q .ret a W)
  (hO:∀la,xh q p cols e0 (rows.map (·.l))=.ok la->∀a W ov (out:List aN),a.defers=d->a.tmps.getD 6 undef=aw g6->a.tmps.getD 7 undef=af 0->aC W g6 33 #[.slice HA p.head.length hc,ov,af out.length]->aI bX 38 1 W w0.heap.size ov out->(∀r∈out,bP W r.A r.l)->out.map (·.l)=la->aj w0 W->w.grownBy W (some g6)->Q .ret a W):
  (fA ez 6).wp Tryz.prog Q { tmps:=T,defers:=d } w:=by
 have HG:∀ {W:World},w.grownBy W (some g6)->aj w0 W:=λ h=>dy hb0 h auL
 refine acS w0 g3 g6 gp q L p cols CA cc yg ya yi yh yo AA ac VA vc HA hc IA ic JA jc DA dc e0 rows base lv T hT h3 h6 h8 h9 h10 h11 d w Q hPE AB Sr hgo hng hsm Aj cg hyh rZ hlv sw QD ?_ ?_
 ·intro er hl hne a W e1 e2 e3 k6 bW;exact hE er (by unfold xh;rw[hl]) hne a W e1 e2 e3 k6 (Below.trans hb0 (bW.mono hb0.size))
 ·intro left hl T1 W1 aeR EA ec OA oc s1 s2 s3 s4 s5 s6 b1 Kd hle hri auM Xm;have aph:=hPE.later b1;have O5:aj w0 W1:=Below.trans hb0 (b1.mono hb0.size);have DR:=O0 p cols aeR;rw[hle] at DR;refine VN w0 gp g3 g6 p.items p.order (fZ p cols) yi yo IA ic DA dc OA oc aeR EA ec T1 s1 s2 s3 s4 s5 s6 d W1 Q (aph.run Xm) (dN.2 λ t ht=>by
   rcases List.mem_append.1 ht with ht | ht
   ·exact dN.1 AB.items t ht
   ·exact dN.1 AB.order t ht) (by rw[AB.li];omega) (by rw[AB.lo];omega) ?_ (λ _=>by rw[AB.li];omega) Kd auM (λ r hr=>(hri r hr).2) (rZ.later b1) ?_ ?_
  ·unfold fZ;split
   ·omega
   ·omega
  ·intro hne a W e1 e2 e3 k6 gW;rw[if_pos hne] at DR;refine hE _ (by unfold xh;rw[hl];dsimp only;rw[DR]) hne a W e1 e2 e3 k6 (HG (ba (aT b1) gW))
  ·intro hz T2 W2 LA lc dL s1 s2 s3 s4 s5 b2 acU auN hls Ou;rw[if_neg (by simp[hz])] at DR;have acY:=aph.later b2;have aim:aj w0 W2:=Below.trans O5 (b2.mono O5.size);have k3:=((hg3.later b1).later b2);have c7:=k3.cell 7;unfold fW at c7;simp only[Uaa] at c7;rw[pX.1] at c7;refine I9 gp g3 g6 q.ord L.o.A L.o.n L.o.c q.lim L.l.A L.l.c dL W1.heap.size LA lc HA p.head.length hc T2 s1 s2 s3 s4 s5 d W2 Q WC WC acY.gr.lt acY.c12 acY.c6 acY.blk (uJ.later aim) (λ b hb w' hg=>uJ.later (dy aim hg (Nat.le_trans O5.size hb))) c7 ⟨_,k3⟩ ?_ hlm fq ((rZ.later b1).later b2) b2.size acU (λ x hx=>by obtain⟨q1,q2,q3,q4⟩:=auN x hx;exact⟨q1,q2,q3,by rw[q4,AB.lo]⟩) ?_
   ·rcases pX.2 with h |⟨b,off,x1,x2,x3⟩
    ·exact .inl h
    ·exact .inr ⟨b,off,x1,Nat.lt_of_lt_of_le x2 O5.size,λ i x hx=>(aim.cell (p:=⟨b,off+i,none⟩) x2).trans (x3 i x hx)⟩
   ·rintro a W ov out e1 e2 e3 k6 oW hk zE ⟨wm,gm,gW⟩;have g1:W1.grownBy W (some g6):=ba (pW (aT b2) gm (Nat.le_refl _) λ q hq=>(acU.lt hq).2.1) gW;have g2:w.grownBy W (some g6):=ba (aT b1) g1;refine hO _ ?_ a W ov out e1 e2 e3 k6 (oW.down O5.size) hk zE (HG g2) g2;unfold xh;rw[hl];dsimp only;rw[DR,<- hls];cases q.lim <;> rfl
def aS (w0:World)(g n a b:Nat)(D:Nat->aN)(e:Ending)(w':World):Prop:=e=.returned (.tuple #[])/\∃E,SS w0 g n w' E/\Sw a b D E/\bc E a b
theorem SS.cmp{g:Nat} {D:Nat->aN}(h:SS w0 g n w D)(i j:Nat)(hi:i < n)(hj:j < n)(hW:aj w W):
  ar 14 #[.slice (D i).A (D i).l.length (D i).c,.slice (D j).A (D j).l.length (D j).c] W λ e w'=>e=.returned (af (bu (D i).l (D j).l))/\aj W w':=
 vQ _ _ _ _ _ _ W ((h.later hW).rv i hi) ((h.later hW).rv j hj) (h.rows i hi).2 (h.rows j hj).2
theorem zbY.Kan(h:p:=by have c1:=H3.ae.at_.cell (jp+1) WC;have c2:=H3.ae.at_.cell jp WC;have f1:=H3.ae.at_.frozen (jp+1);have f2:=H3.ae.at_.frozen jp;obtain⟨u,c3⟩:=H3.ae.second (jp+1) jp WC WC (E jp).v;have S3:=aa (H3.ae.swap (jp+1) jp WC WC);unfold aN.v at c3 S3;go_upto_region 6 with fail;go_big_region_o;clear c1 c2 c3 f1 f2;exact Zcz):p:=h
theorem zbZ.Kan(h:p:=by exact Zh1):p:=h
theorem zgo.Kbr(h:p:=by
 have c2:=λ q:Ext wr.heap.size wr=>(H2.ae.at_.later q.h).cell jp WC
 have hc:=λ q:Ext wr.heap.size wr=>H2.ae.cmp (jp+1) jp WC WC q.h
 by_cases hl:bu (E (jp+1)).l (E jp).l < 0
 ·have t2:=decide_eq_true hl;have HL:=aa (show lt (E (jp+1)) (E jp)from hl);clear hl;refine aD 17 wr.heap.size wr (Below.refl _ _) Vx Vx Vx Vx ?_;open zbY in exact ZaF
 ·have t2:=decide_eq_false hl;have HL:=aa (show¬lt (E (jp+1)) (E jp)from hl);clear hl;refine aD 17 wr.heap.size wr (Below.refl _ _) Vx Vx Vx Vx ?_;open zbZ in exact ZaF):p:=h
theorem ik (w0:World)(g n cap a b:Nat)(D:Nat->aN)(w:World)(h:SS w0 g n w D)(hn:n<=1000)(hab:a<=b)(hb:b<=n):
  ar 129 #[aF g n cap,af a,af b,.func (.func 14) #[] #[]] w (aS w0 g n a b D):=by
 have HS:=aa h;have mixed:Tryz.prog.follows .mixedOrders=true:=by kernel_rfl
 clear h;go_enter Tryz.func129,Tryz.ntmps129;go_wp2_with fail;go_loopw [8] (λ iv wr=>∃(i:Nat) (Kx:Nat->aN),a < i/\(i<=b\/i=a+1)/\iv=af i/\SS w0 g n wr Kx/\Sw a b D Kx/\bc Kx a i) (λ iv _=>b - (intOf iv).toNat);case atStart=>exact ZhK
 case round=>
  clear HS;obtain⟨i,Kx,kB,hi,rfl,hF,ih,q1⟩:=hrel;have H2:=aa hF;have HW:=aa ih;have EN:=aa q1;clear hF ih q1;by_cases hlt:i < b
  ·go_wp2_with fail;go_loopw [9] (λ jv wr2=>∃(j:Nat) (E:Nat->aN),a<=j/\j<=i/\jv=af j/\SS w0 g n wr2 E/\Sw a b D E/\Lb E a i j) (λ jv _=>(intOf jv).toNat);case atStart=>exact Zh3
   case round=>
    clear H2 HW EN;obtain⟨j,E,hj0,hj,rfl,hF,ih,q1⟩:=hrel;have H2:=aa hF;have HW:=aa ih;have EN:=aa q1;clear hF ih q1;by_cases hja:a < j
    ·open zgo in exact ZdL
    ·exact Zbu
  ·have HE:=aa (EN.ae.mono (Nat.le_refl a) (show b<=i by omega));go_wp2_with fail;exact bodyPost_ret (v:=.tuple #[]) Tbi rfl ⟨rfl,Kx,H2.ae,HW.ae,HE.ae⟩
theorem zb0.Kan(h:p:=by exact Zfd):p:=h
theorem zb1.Kan(h:p:=by exact ZeB):p:=h
theorem zdY.KaK(h:p:=by
 have c1:=λ q:Ext wr.heap.size wr=>(H2.ae.at_.later q.h).cell (jp) WC
 have c2:=λ q:Ext wr.heap.size wr=>(H2.ae.at_.later q.h).cell (a) WC
 have hc:=λ q:Ext wr.heap.size wr=>H2.ae.cmp (jp) (a) WC WC q.h
 by_cases hl:bu (D (jp)).l (D (a)).l < 0
 ·have t2:=decide_eq_true hl;have HX:=aa (show lt (D (jp)) (D (a))from hl);clear hl;refine aD 11 wr.heap.size wr (Below.refl _ _) Vx Vx Vx Vx ?_;open zb0 in exact ZaF
 ·have t2:=decide_eq_false hl;have HX:=aa (show¬lt (D (jp)) (D (a))from hl);clear hl;refine aD 11 wr.heap.size wr (Below.refl _ _) Vx Vx Vx Vx ?_;open zb1 in exact ZaF):p:=h
theorem zhg.KbN(h:p:=by
 go_loopw [13] (λ kv wr2=>∃k:Nat,a<=k/\k<=j - 1/\kv=af k/\SS w0 g n wr2 (mf D a k)) (λ kv _=>j - (intOf kv).toNat);case atStart=>exact Ziv
 case round=>
  clear H2;obtain⟨k,WK,hk,rfl,hs⟩:=hrel;have H2:=aa hs;clear hs;by_cases hlt:k < j - 1
  ·have t2:decide ((k:Int)<((j - 1:Nat):Int))=true:=decide_eq_true WC;have c1:=H2.ae.at_.cell (k) WC;have c2:=H2.ae.at_.cell (k+1) WC;have f1:=H2.ae.at_.frozen (k);have f2:=H2.ae.at_.frozen (k+1);obtain⟨u,c3⟩:=H2.ae.second (k) (k+1) WC WC (mf D a k (k+1)).v;have S3:=aa (H2.ae.swap (k) (k+1) WC WC);unfold aN.v at c3 S3;go_upto_region 11 with fail;go_big_region_o;clear c1 c2 c3 f1 f2;exact Zdy
  ·have t2:decide ((k:Int)<((j - 1:Nat):Int))=false:=decide_eq_false WC;have xm:k=j - 1:=by omega
   exact Zfp):p:=h
theorem zhM.Kb0(h:p:=by
 by_cases hlt:i < j
 ·go_upto_region 5 with fail;open zdY in exact Zbp
 ·open zhg in exact ZeP):p:=h
theorem JB (w0:World)(g n cap a b:Nat)(D:Nat->aN)(w:World)(h:SS w0 g n w D)(hn:n<=1000)(hab:a+1 < b)(hb:b<=n)(q5:bc D (a+1) b):
  ar 130 #[aF g n cap,af a,af (a+1),af b,.func (.func 14) #[] #[]] w (aS w0 g n a b D):=by
 have HS:=aa h;have Q5:=aa q5;have mixed:Tryz.prog.follows .mixedOrders=true:=by kernel_rfl
 clear h q5;have t1:((a:Int)+1 - (a:Int)==1)=true:=by simp;omega
 go_enter Tryz.func130,Tryz.ntmps130;go_wp2_with fail;clear t1;go_loopw [10,11] (λ iv jv wr=>∃i j:Nat,a+1<=i/\i<=j/\j<=b/\iv=af i/\jv=af j/\SS w0 g n wr D/\(∀h,a+1<=h->h < i->lt (D h) (D a))/\∀h,j<=h->h < b->¬lt (D h) (D a)) (λ iv jv _=>(intOf jv).toNat - (intOf iv).toNat);case atStart=>exact Zgj
 case round=>
  open zhM in exact Ze6
theorem zb2.Kan(h:p:=by exact ZfW):p:=h
theorem zb3.Kan(h:p:=by exact Zem):p:=h
theorem zdZ.KaK(h:p:=by
 have c1:=λ q:Ext wr.heap.size wr=>(H2.ae.at_.later q.h).cell (m) WC
 have c2:=λ q:Ext wr.heap.size wr=>(H2.ae.at_.later q.h).cell (jp) WC
 have hc:=λ q:Ext wr.heap.size wr=>H2.ae.cmp (m) (jp) WC WC q.h
 by_cases hl:bu (D (m)).l (D (jp)).l < 0
 ·have t2:=decide_eq_true hl;have HX:=aa (show lt (D (m)) (D (jp))from hl);clear hl;refine aD 12 wr.heap.size wr (Below.refl _ _) Vx Vx Vx Vx ?_;open zb2 in exact ZaF
 ·have t2:=decide_eq_false hl;have HX:=aa (show¬lt (D (m)) (D (jp))from hl);clear hl;refine aD 12 wr.heap.size wr (Below.refl _ _) Vx Vx Vx Vx ?_;open zb3 in exact ZaF):p:=h
theorem zh5.Kb6(h:p:=by have c2:=H2.ae.at_.cell (kp) WC;have f1:=H2.ae.at_.frozen (kp+1);have f2:=H2.ae.at_.frozen (kp);obtain⟨u,c3⟩:=H2.ae.second (kp+1) (kp) WC WC (nJ D (kp+1) m (kp)).v;have S3:=aa (H2.ae.swap (kp+1) (kp) WC WC);unfold aN.v at c3 S3;go_upto_region 23 with fail;go_big_region_o;clear c1 c2 c3 f1 f2;exact Zc0):p:=h
theorem zhD.KbX(h:p:=by
 go_loopw [17] (λ kv wr2=>∃k:Nat,j<=k/\k<=m/\kv=af k/\SS w0 g n wr2 (nJ D k m)) (λ kv _=>(intOf kv).toNat);case atStart=>exact⟨m,by omega,by omega,rfl,by rw[ou];exact H2.ae⟩
 case round=>
  clear H2;obtain⟨k,WK,hk,rfl,hs⟩:=hrel;have H2:=aa hs;clear hs;by_cases hlt:j < k
  ·open zh5 in exact Zfi
  ·have t2:decide ((j:Int)<(k:Int))=false:=decide_eq_false WC;have xm:k=j:=by omega
   exact Zfp):p:=h
theorem zhN.Kb0(h:p:=by
 by_cases hlt:i < j
 ·go_upto_region 17 with fail;open zdZ in exact Zbp
 ·open zhD in exact Ze3):p:=h
theorem ziz.Kci(h:p:=by
 go_enter Tryz.func130,Tryz.ntmps130;go_wp2_with fail;clear t0 t1;go_loopw [14,15] (λ iv jv wr=>∃i j:Nat,a<=i/\i<=j/\j<=m/\iv=af i/\jv=af j/\SS w0 g n wr D/\(∀h,a<=h->h < i->¬lt (D m) (D h))/\∀h,j<=h->h < m->lt (D m) (D h)) (λ iv jv _=>(intOf jv).toNat - (intOf iv).toNat);case atStart=>exact Zhf
 case round=>
  open zhN in exact Ze6):p:=h
theorem JC (w0:World)(g n cap a m:Nat)(D:Nat->aN)(w:World)(h:SS w0 g n w D)(hn:n<=1000)(hab:a+1 < m)(hb:m+1<=n)(q5:bc D a m):
  ar 130 #[aF g n cap,af a,af m,af (m+1),.func (.func 14) #[] #[]] w (aS w0 g n a (m+1) D):=by
 open ziz in exact Zga
variable{m mid s0 r0 c:Nat}
theorem yX.goP{D:Nat->aN} {a b s r p:Nat}(hp:p=mid+m - 1)(he:mg a m b mid s0 r0)(h1:bc D a m)(h2:bc D m b)(h:yX D p s0 r0 s r)(hs:s0<=s)(hr:r<=r0)(hc:s<=c)(hc2:c < r):
  (¬lt (D (p - c)) (D c)->yX D p s0 r0 (c+1) r)/\(lt (D (p - c)) (D c)->yX D p s0 r0 s c):=by subst hp;exact yX.go he h1 h2 h hs hr hc hc2
theorem mD{D:Nat->aN} {a b s p f:Nat}(hp:p=mid+m - 1)(hf:f=mid+m - s)(he:mg a m b mid s0 r0)(h1:bc D a m)(h2:bc D m b)(h:yX D p s0 r0 s s)(hs:s0<=s)(hr:s<=r0):
  bc (aO D s m f) a s/\bc (aO D s m f) s mid/\bc (aO D s m f) mid f/\bc (aO D s m f) f b/\
  ∀x y,a<=x->x < mid->mid<=y->y < b->le (aO D s m f x) (aO D s m f y):=by subst hp hf;exact xG he h1 h2 h hs hr
theorem zaF.Kad(h:p:=by exact Zcd):p:=h
theorem zdv.KaG(h:p:=by
 go_loopw [20,21] (λ sv rv wr=>∃i j:Nat,s0<=i/\i<=s/\s<=j/\j<=r0/\sv=af i/\rv=af j/\SS w0 g n wr D) (λ sv rv _=>(intOf rv).toNat - (intOf sv).toNat);case atStart=>exact Zbw
 case round=>
  clear HS;obtain⟨i,j,iM,hi,hj,nQ,rfl,rfl,hs⟩:=hrel;have H2:=aa hs;clear hs;by_cases hlt:i < j
  ·exact Zaa
  ·open zaF in exact Zaj):p:=h
theorem zbj.Kah(h:p:=by
 have zs:(mid:Int)+(m:Int) - (b:Int)=(s0:Int):=by omega
 open zdv in exact Zbl):p:=h
theorem yF (w0:World)(g n cap a m b mid p s f s0 r0:Nat)(D:Nat->aN)(w:World)(h:SS w0 g n w D)(hn:n<=1000)(BI:a+1 < m)(BJ:m+1 < b)(hb:b<=n)(cE:mid=(a+b)/ 2)(hp:p=mid+m - 1)(hf:f=mid+m - s)(iq:s0=mid+m - b)(fy:r0=mid)(xz:mid < m)
  (hs0:s0<=s) (kz:s<=r0) (hF:yX D p s0 r0 s s) (q1:bc (aO D s m f) a s) (q2:bc (aO D s m f) s mid) (q3:bc (aO D s m f) mid f) (q4:bc (aO D s m f) f b) (q5:∀x y,a<=x->x < mid->mid<=y->y < b->le (aO D s m f x) (aO D s m f y)) (k0:s < m) (k1:m < f) (k2:a < s) (k3:s < mid) (k4:mid < f) (k5:f < b)
  (ih:∀a' m' b' E W,a' < m'->m' < b'->b'<=n->b' - a' < b - a->SS w0 g n W E->bc E a' m'->bc E m' b'->ar 130 #[aF g n cap,af (a':Nat),af (m':Nat),af (b':Nat),.func (.func 14) #[] #[]] W (aS w0 g n a' b' E)):
  ar 130 #[aF g n cap,af a,af m,af b,.func (.func 14) #[] #[]] w (aS w0 g n a b D):=by
 open zbj in exact Zax
theorem zaJ.Kae(h:p:=by exact ZbU):p:=h
theorem zdw.KaG(h:p:=by
 go_loopw [20,21] (λ sv rv wr=>∃i j:Nat,s0<=i/\i<=s/\s<=j/\j<=r0/\sv=af i/\rv=af j/\SS w0 g n wr D) (λ sv rv _=>(intOf rv).toNat - (intOf sv).toNat);case atStart=>exact Zbw
 case round=>
  clear HS;obtain⟨i,j,iM,hi,hj,nQ,rfl,rfl,hs⟩:=hrel;have H2:=aa hs;clear hs;by_cases hlt:i < j
  ·exact Zaa
  ·open zaJ in exact Zak):p:=h
theorem zbk.Kah(h:p:=by
 have zs:(mid:Int)+(m:Int) - (b:Int)=(s0:Int):=by omega
 open zdw in exact Zbl):p:=h
theorem yG (w0:World)(g n cap a m b mid p s f s0 r0:Nat)(D:Nat->aN)(w:World)(h:SS w0 g n w D)(hn:n<=1000)(BI:a+1 < m)(BJ:m+1 < b)(hb:b<=n)(cE:mid=(a+b)/ 2)(hp:p=mid+m - 1)(hf:f=mid+m - s)(iq:s0=mid+m - b)(fy:r0=mid)(xz:mid < m)
  (hs0:s0<=s) (kz:s<=r0) (hF:yX D p s0 r0 s s) (q1:bc (aO D s m f) a s) (q2:bc (aO D s m f) s mid) (q3:bc (aO D s m f) mid f) (q4:bc (aO D s m f) f b) (q5:∀x y,a<=x->x < mid->mid<=y->y < b->le (aO D s m f x) (aO D s m f y)) (k0:s < m) (k1:m < f) (k2:a < s) (k3:s < mid) (k4:mid < f) (k5:¬(f < b))
  (ih:∀a' m' b' E W,a' < m'->m' < b'->b'<=n->b' - a' < b - a->SS w0 g n W E->bc E a' m'->bc E m' b'->ar 130 #[aF g n cap,af (a':Nat),af (m':Nat),af (b':Nat),.func (.func 14) #[] #[]] W (aS w0 g n a' b' E)):
  ar 130 #[aF g n cap,af a,af m,af b,.func (.func 14) #[] #[]] w (aS w0 g n a b D):=by
 open zbk in exact Zax
theorem zax.Kab(h:p:=by exact Zcd):p:=h
theorem zdx.KaG(h:p:=by
 go_loopw [20,21] (λ sv rv wr=>∃i j:Nat,s0<=i/\i<=s/\s<=j/\j<=r0/\sv=af i/\rv=af j/\SS w0 g n wr D) (λ sv rv _=>(intOf rv).toNat - (intOf sv).toNat);case atStart=>exact Zbw
 case round=>
  clear HS;obtain⟨i,j,iM,hi,hj,nQ,rfl,rfl,hs⟩:=hrel;have H2:=aa hs;clear hs;by_cases hlt:i < j
  ·exact Zaa
  ·open zax in exact Zah):p:=h
theorem zbl.Kah(h:p:=by
 have zs:(mid:Int)+(m:Int) - (b:Int)=(s0:Int):=by omega
 open zdx in exact Zbl):p:=h
theorem yH (w0:World)(g n cap a m b mid p s f s0 r0:Nat)(D:Nat->aN)(w:World)(h:SS w0 g n w D)(hn:n<=1000)(BI:a+1 < m)(BJ:m+1 < b)(hb:b<=n)(cE:mid=(a+b)/ 2)(hp:p=mid+m - 1)(hf:f=mid+m - s)(iq:s0=mid+m - b)(fy:r0=mid)(xz:mid < m)
  (hs0:s0<=s) (kz:s<=r0) (hF:yX D p s0 r0 s s) (q1:bc (aO D s m f) a s) (q2:bc (aO D s m f) s mid) (q3:bc (aO D s m f) mid f) (q4:bc (aO D s m f) f b) (q5:∀x y,a<=x->x < mid->mid<=y->y < b->le (aO D s m f x) (aO D s m f y)) (k0:s < m) (k1:m < f) (k2:¬(a < s)) (k3:s < mid) (k4:mid < f) (k5:f < b)
  (ih:∀a' m' b' E W,a' < m'->m' < b'->b'<=n->b' - a' < b - a->SS w0 g n W E->bc E a' m'->bc E m' b'->ar 130 #[aF g n cap,af (a':Nat),af (m':Nat),af (b':Nat),.func (.func 14) #[] #[]] W (aS w0 g n a' b' E)):
  ar 130 #[aF g n cap,af a,af m,af b,.func (.func 14) #[] #[]] w (aS w0 g n a b D):=by
 open zbl in exact Zax
theorem zaB.Kac(h:p:=by exact ZbU):p:=h
theorem zdy.KaG(h:p:=by
 go_loopw [20,21] (λ sv rv wr=>∃i j:Nat,s0<=i/\i<=s/\s<=j/\j<=r0/\sv=af i/\rv=af j/\SS w0 g n wr D) (λ sv rv _=>(intOf rv).toNat - (intOf sv).toNat);case atStart=>exact Zbw
 case round=>
  clear HS;obtain⟨i,j,iM,hi,hj,nQ,rfl,rfl,hs⟩:=hrel;have H2:=aa hs;clear hs;by_cases hlt:i < j
  ·exact Zaa
  ·open zaB in exact Zai):p:=h
theorem zbm.Kah(h:p:=by
 have zs:(mid:Int)+(m:Int) - (b:Int)=(s0:Int):=by omega
 open zdy in exact Zbl):p:=h
theorem yI (w0:World)(g n cap a m b mid p s f s0 r0:Nat)(D:Nat->aN)(w:World)(h:SS w0 g n w D)(hn:n<=1000)(BI:a+1 < m)(BJ:m+1 < b)(hb:b<=n)(cE:mid=(a+b)/ 2)(hp:p=mid+m - 1)(hf:f=mid+m - s)(iq:s0=mid+m - b)(fy:r0=mid)(xz:mid < m)
  (hs0:s0<=s) (kz:s<=r0) (hF:yX D p s0 r0 s s) (q1:bc (aO D s m f) a s) (q2:bc (aO D s m f) s mid) (q3:bc (aO D s m f) mid f) (q4:bc (aO D s m f) f b) (q5:∀x y,a<=x->x < mid->mid<=y->y < b->le (aO D s m f x) (aO D s m f y)) (k0:s < m) (k1:m < f) (k2:¬(a < s)) (k3:s < mid) (k4:mid < f) (k5:¬(f < b))
  (ih:∀a' m' b' E W,a' < m'->m' < b'->b'<=n->b' - a' < b - a->SS w0 g n W E->bc E a' m'->bc E m' b'->ar 130 #[aF g n cap,af (a':Nat),af (m':Nat),af (b':Nat),.func (.func 14) #[] #[]] W (aS w0 g n a' b' E)):
  ar 130 #[aF g n cap,af a,af m,af b,.func (.func 14) #[] #[]] w (aS w0 g n a b D):=by
 open zbm in exact Zax
theorem zaG.Kad(h:p:=by exact Zcd):p:=h
theorem zdz.KaG(h:p:=by
 go_loopw [20,21] (λ sv rv wr=>∃i j:Nat,s0<=i/\i<=s/\s<=j/\j<=r0/\sv=af i/\rv=af j/\SS w0 g n wr D) (λ sv rv _=>(intOf rv).toNat - (intOf sv).toNat);case atStart=>exact Za7
 case round=>
  clear HS;obtain⟨i,j,iM,hi,hj,nQ,rfl,rfl,hs⟩:=hrel;have H2:=aa hs;clear hs;by_cases hlt:i < j
  ·exact Zaa
  ·open zaG in exact Zaj):p:=h
theorem zbn.Kah(h:p:=by
 have zs:(0:Int)=0:=by omega
 open zdz in exact Zbl):p:=h
theorem yJ (w0:World)(g n cap a m b mid p s f s0 r0:Nat)(D:Nat->aN)(w:World)(h:SS w0 g n w D)(hn:n<=1000)(BI:a+1 < m)(BJ:m+1 < b)(hb:b<=n)(cE:mid=(a+b)/ 2)(hp:p=mid+m - 1)(hf:f=mid+m - s)(iq:s0=a)(fy:r0=m)(xz:¬(mid < m))
  (hs0:s0<=s) (kz:s<=r0) (hF:yX D p s0 r0 s s) (q1:bc (aO D s m f) a s) (q2:bc (aO D s m f) s mid) (q3:bc (aO D s m f) mid f) (q4:bc (aO D s m f) f b) (q5:∀x y,a<=x->x < mid->mid<=y->y < b->le (aO D s m f x) (aO D s m f y)) (k0:s < m) (k1:m < f) (k2:a < s) (k3:s < mid) (k4:mid < f) (k5:f < b)
  (ih:∀a' m' b' E W,a' < m'->m' < b'->b'<=n->b' - a' < b - a->SS w0 g n W E->bc E a' m'->bc E m' b'->ar 130 #[aF g n cap,af (a':Nat),af (m':Nat),af (b':Nat),.func (.func 14) #[] #[]] W (aS w0 g n a' b' E)):
  ar 130 #[aF g n cap,af a,af m,af b,.func (.func 14) #[] #[]] w (aS w0 g n a b D):=by
 open zbn in exact Zax
theorem zaK.Kae(h:p:=by exact ZbU):p:=h
theorem zdA.KaG(h:p:=by
 go_loopw [20,21] (λ sv rv wr=>∃i j:Nat,s0<=i/\i<=s/\s<=j/\j<=r0/\sv=af i/\rv=af j/\SS w0 g n wr D) (λ sv rv _=>(intOf rv).toNat - (intOf sv).toNat);case atStart=>exact Za7
 case round=>
  clear HS;obtain⟨i,j,iM,hi,hj,nQ,rfl,rfl,hs⟩:=hrel;have H2:=aa hs;clear hs;by_cases hlt:i < j
  ·exact Zaa
  ·open zaK in exact Zak):p:=h
theorem zbo.Kah(h:p:=by
 have zs:(0:Int)=0:=by omega
 open zdA in exact Zbl):p:=h
theorem yK (w0:World)(g n cap a m b mid p s f s0 r0:Nat)(D:Nat->aN)(w:World)(h:SS w0 g n w D)(hn:n<=1000)(BI:a+1 < m)(BJ:m+1 < b)(hb:b<=n)(cE:mid=(a+b)/ 2)(hp:p=mid+m - 1)(hf:f=mid+m - s)(iq:s0=a)(fy:r0=m)(xz:¬(mid < m))
  (hs0:s0<=s) (kz:s<=r0) (hF:yX D p s0 r0 s s) (q1:bc (aO D s m f) a s) (q2:bc (aO D s m f) s mid) (q3:bc (aO D s m f) mid f) (q4:bc (aO D s m f) f b) (q5:∀x y,a<=x->x < mid->mid<=y->y < b->le (aO D s m f x) (aO D s m f y)) (k0:s < m) (k1:m < f) (k2:a < s) (k3:s < mid) (k4:mid < f) (k5:¬(f < b))
  (ih:∀a' m' b' E W,a' < m'->m' < b'->b'<=n->b' - a' < b - a->SS w0 g n W E->bc E a' m'->bc E m' b'->ar 130 #[aF g n cap,af (a':Nat),af (m':Nat),af (b':Nat),.func (.func 14) #[] #[]] W (aS w0 g n a' b' E)):
  ar 130 #[aF g n cap,af a,af m,af b,.func (.func 14) #[] #[]] w (aS w0 g n a b D):=by
 open zbo in exact Zax
theorem zay.Kab(h:p:=by exact Zcd):p:=h
theorem zdB.KaG(h:p:=by
 go_loopw [20,21] (λ sv rv wr=>∃i j:Nat,s0<=i/\i<=s/\s<=j/\j<=r0/\sv=af i/\rv=af j/\SS w0 g n wr D) (λ sv rv _=>(intOf rv).toNat - (intOf sv).toNat);case atStart=>exact Za7
 case round=>
  clear HS;obtain⟨i,j,iM,hi,hj,nQ,rfl,rfl,hs⟩:=hrel;have H2:=aa hs;clear hs;by_cases hlt:i < j
  ·exact Zaa
  ·open zay in exact Zah):p:=h
theorem zbp.Kah(h:p:=by
 have zs:(0:Int)=0:=by omega
 open zdB in exact Zbl):p:=h
theorem yL (w0:World)(g n cap a m b mid p s f s0 r0:Nat)(D:Nat->aN)(w:World)(h:SS w0 g n w D)(hn:n<=1000)(BI:a+1 < m)(BJ:m+1 < b)(hb:b<=n)(cE:mid=(a+b)/ 2)(hp:p=mid+m - 1)(hf:f=mid+m - s)(iq:s0=a)(fy:r0=m)(xz:¬(mid < m))
  (hs0:s0<=s) (kz:s<=r0) (hF:yX D p s0 r0 s s) (q1:bc (aO D s m f) a s) (q2:bc (aO D s m f) s mid) (q3:bc (aO D s m f) mid f) (q4:bc (aO D s m f) f b) (q5:∀x y,a<=x->x < mid->mid<=y->y < b->le (aO D s m f x) (aO D s m f y)) (k0:s < m) (k1:m < f) (k2:¬(a < s)) (k3:s < mid) (k4:mid < f) (k5:f < b)
  (ih:∀a' m' b' E W,a' < m'->m' < b'->b'<=n->b' - a' < b - a->SS w0 g n W E->bc E a' m'->bc E m' b'->ar 130 #[aF g n cap,af (a':Nat),af (m':Nat),af (b':Nat),.func (.func 14) #[] #[]] W (aS w0 g n a' b' E)):
  ar 130 #[aF g n cap,af a,af m,af b,.func (.func 14) #[] #[]] w (aS w0 g n a b D):=by
 open zbp in exact Zax
theorem zaC.Kac(h:p:=by exact ZbU):p:=h
theorem zdC.KaG(h:p:=by
 go_loopw [20,21] (λ sv rv wr=>∃i j:Nat,s0<=i/\i<=s/\s<=j/\j<=r0/\sv=af i/\rv=af j/\SS w0 g n wr D) (λ sv rv _=>(intOf rv).toNat - (intOf sv).toNat);case atStart=>exact Za7
 case round=>
  clear HS;obtain⟨i,j,iM,hi,hj,nQ,rfl,rfl,hs⟩:=hrel;have H2:=aa hs;clear hs;by_cases hlt:i < j
  ·exact Zaa
  ·open zaC in exact Zai):p:=h
theorem zbq.Kah(h:p:=by
 have zs:(0:Int)=0:=by omega
 open zdC in exact Zbl):p:=h
theorem yM (w0:World)(g n cap a m b mid p s f s0 r0:Nat)(D:Nat->aN)(w:World)(h:SS w0 g n w D)(hn:n<=1000)(BI:a+1 < m)(BJ:m+1 < b)(hb:b<=n)(cE:mid=(a+b)/ 2)(hp:p=mid+m - 1)(hf:f=mid+m - s)(iq:s0=a)(fy:r0=m)(xz:¬(mid < m))
  (hs0:s0<=s) (kz:s<=r0) (hF:yX D p s0 r0 s s) (q1:bc (aO D s m f) a s) (q2:bc (aO D s m f) s mid) (q3:bc (aO D s m f) mid f) (q4:bc (aO D s m f) f b) (q5:∀x y,a<=x->x < mid->mid<=y->y < b->le (aO D s m f x) (aO D s m f y)) (k0:s < m) (k1:m < f) (k2:¬(a < s)) (k3:s < mid) (k4:mid < f) (k5:¬(f < b))
  (ih:∀a' m' b' E W,a' < m'->m' < b'->b'<=n->b' - a' < b - a->SS w0 g n W E->bc E a' m'->bc E m' b'->ar 130 #[aF g n cap,af (a':Nat),af (m':Nat),af (b':Nat),.func (.func 14) #[] #[]] W (aS w0 g n a' b' E)):
  ar 130 #[aF g n cap,af a,af m,af b,.func (.func 14) #[] #[]] w (aS w0 g n a b D):=by
 open zbq in exact Zax
end Go.Proofs.YtndgjggokjickaaGreatDoor
