/- Parts of the proof. -/
import Derived.Test.YtndgjggokjickaaGreatDoorXX8
namespace Go.Proofs.YtndgjggokjickaaGreatDoor
set_option maxHeartbeats 90000000
set_option maxRecDepth 100000
open Go.ChangeShapes Go.WideShapes Go.ChangeAt Go.RowKit List
set_option linter.unusedVariables false
set_option linter.unusedSimpArgs false
def c4V (g4 g5 k b1 o1 b2 o2:Nat)(ka kb:Value)(x y:Val):Nat->World->Value->Prop
 | 0,_,v=>v=bh g4 1
 | 1,_,v=>v=ka
 | 2,_,v=>v=af k
 | 3,_,v=>v=bh b1 (o1+k*3)
 | 4,_,v=>v=.agg (aD x)
 | 5,_,v=>v=bh g5 1
 | 6,_,v=>v=kb
 | 7,_,v=>v=af k
 | 8,_,v=>v=bh b2 (o2+k*3)
 | 9,_,v=>v=.agg (aD y)
 | 10,_,v=>v=af (bO x y)
 | 11,_,v=>v=af (bO x y)
 | _,_,_=>False
theorem VO (g4 g5 k b1 o1 b2 o2:Nat)(ka kb:Value)(x y:Val):∀i w w' v,c4V g4 g5 k b1 o1 b2 o2 ka kb x y i w v->ai w w'->c4V g4 g5 k b1 o1 b2 o2 ka kb x y i w' v:=by
 intro i w w' v h hl
 match i with
 | 0 | 1 | 2 | 3 | 4 | 5 | 6 | 7 | 8 | 9 | 10 | 11=>exact h
 | n+12=>exact h
structure pW where
 row:aW
 keys:aW
def pW.v (l:pW):Value:=.agg #[.slice l.row.A l.row.l.length l.row.c,.slice l.keys.A l.keys.l.length l.keys.c]
def pW.s (l:pW):fk:=⟨l.row.l,l.keys.l⟩
structure pW.At (w:World) (l:pW) (n:Nat):Prop where
 row:RV w w.heap.size l.row.A l.row.l
 keys:RV w w.heap.size l.keys.A l.keys.l
 len:l.keys.l.length=n
 short:l.row.l.length<=1000
variable{w w':World}{l:pW}{n:Nat}
theorem pW.At.later(h:l.At w n)(hb:aj w w'):l.At w' n:=⟨h.row.later hb,h.keys.later hb,h.len,h.short⟩
variable{x y:Int}
theorem M9(h:x≠0):ow x y=x:=if_neg h
theorem Gy:ow 0 y=y:=if_pos rfl
variable{d:Bool}{ds:List Bool}{a b:Val}{la lb:List Val}
theorem QF:vQ (d::ds) (a::la) (b::lb)=ow (Za d a b) (vQ ds la lb):=rfl
theorem VP (x y z:Int):ow (ow x y) z=ow x (ow y z):=by
 unfold ow;repeat' split
 all_goals first | rfl |(exfalso;omega)| omega
theorem MH (gp:Nat)(aL:List (Tr×Bool))(oA:Option Addr)(on oc:Nat)(a b:pW)(w:World)(q4:aL.length<=1599289640356)(sF:gp < w.heap.size)(BX:w.cell? ⟨gp,6,none⟩=some (.slice oA on oc))(hO:eO w (aL.map λ x=>(x.1,Value.bool x.2)) oA on)(nX:a.At w aL.length)(hb:b.At w aL.length):
  ar 39 #[aw gp,a.v,b.v] w λ e w'=>e=.returned (af (vR (aL.map λ x=>x.2) a.s b.s))/\aj w w':=by
 obtain⟨hn,ys,hys,a2,hy3⟩:=hO;rw[length_map] at hn;subst hn;have B3:ys.length=aL.length:=by have:=congrArg List.length a2;simpa using this
 have Tp:∀(k:Nat) (z:Ex×Value) (o:Tr×Bool),ys[k]?=some z->aL[k]?=some o->z.2=.bool o.2:=λ k z o hz ho=>by have h1:=congrArg (λ l=>l[k]?) a2;simp only[getElem?_map,hz,ho,Option.map_some] at h1;injection h1
 clear a2 hy3;obtain⟨⟨rA,rl,rc⟩,⟨kA,kl,kc⟩⟩:=a;obtain⟨⟨sA,sl,sc⟩,⟨jA,jl,jc⟩⟩:=b;obtain⟨rt,hrt⟩:∃rt,rt=vR (aL.map λ x=>x.2) (pW.s ⟨⟨rA,rl,rc⟩,⟨kA,kl,kc⟩⟩) (pW.s ⟨⟨sA,sl,sc⟩,⟨jA,jl,jc⟩⟩):=⟨_,rfl⟩;rw[<- hrt];have q5:=nX.len;have Av:=hb.len;dsimp only at q5 Av;unfold pW.v;dsimp only;have apf:rt=ow (vQ ((aL.map λ x=>x.2).drop 0) (kl.drop 0) (jl.drop 0)) (bX rl sl):=hrt;have KZ:=aa apf;clear hrt apf;have Q4:=aa q4;have Q5:=aa q5;have oz:=aa Av;have E1:=aa Tp;have Ai:=aa B3;have b0:=ah w (.cells #[.slice rA rl.length rc,.slice kA kl.length kc] 91);have oy:=aB.new w 91 #[.slice rA rl.length rc,.slice kA kl.length kc];have b2:=ah (w.alloc (.cells #[.slice rA rl.length rc,.slice kA kl.length kc] 91)) (.cells #[.slice sA sl.length sc,.slice jA jl.length jc] 91);have HZ:=aB.new (w.alloc (.cells #[.slice rA rl.length rc,.slice kA kl.length kc] 91)) 91 #[.slice sA sl.length sc,.slice jA jl.length jc];replace oy:=oy.later b2;have bb:=ai.then b0 b2;rw[World.size_alloc] at HZ;have sT:=aa (nX.later bb);have HBL:=aa (hb.later bb);have HY:=aa (hys.later bb);have HPO:=aa ((bb.cell (p:=⟨gp,6,none⟩) sF).trans BX);have JM:=aa (Nat.lt_of_lt_of_le sF bb.size);have HB:=aa bb;clear nX hb hys BX sF bb b0 b2 q4 q5 Av Tp B3;go_enter Tryz.func39,Tryz.ntmps39;go_upto_region 1 with fail;generalize World.alloc (World.alloc w _) _=W at*;obtain⟨g4,hg4⟩:∃g4,g4=w.heap.size+1:=⟨_,rfl⟩;rw[<- hg4] at HZ ⊢;clear hg4;obtain⟨Lw,KK⟩:∃Lw,Lw=w.heap.size:=⟨_,rfl⟩;rw[<- KK] at oy ⊢;clear KK;have BX:=HPO.ae;have apg:=aa oy;have aph:=aa HZ
 clear oy HZ;go_wp2_with fail;clear BX;go_loopw [16] (λ i wr=>∃k:Nat,k<=aL.length/\i=af k/\rt=ow (vQ ((aL.map λ x=>x.2).drop k) (kl.drop k) (jl.drop k)) (bX rl sl)/\aj W wr) (λ i _=>aL.length - (intOf i).toNat);case atStart=>exact⟨0,Nat.zero_le _,rfl,KZ.ae,Below.refl _ _⟩
 case round=>
  clear KZ;obtain⟨k,hk,rfl,hp,hb⟩:=hrel;have HP:=aa hp;clear hp;by_cases hlt:k < aL.length
  ·have aix:k < kl.length:=by have:=Q5.ae;omega
   have aiy:k < jl.length:=by have:=oz.ae;omega
   have api:k < ys.length:=by have:=Ai.ae;omega
   obtain⟨bo,oo,rfl,Ch,hex,hd⟩:=(HY.ae.below hb).at_ api;rw[E1.ae k _ _ (getElem?_eq_getElem api) (getElem?_eq_getElem hlt)] at hd;obtain⟨b2,o1,KQ,hb1,hx1⟩:=(sT.ae.keys.below hb).at_ aix;obtain⟨Kx,o2,tO,hb2,hx2⟩:=(HBL.ae.keys.below hb).at_ aiy;dsimp only at KQ tO;subst KQ tO;have IC:=aa (show(aL.map λ x=>x.2).drop k=aL[k].2::(aL.map λ x=>x.2).drop (k+1) by rw[drop_eq_getElem_cons Tao];simp);have JN:=aa (show kl.drop k=kl[k]::kl.drop (k+1)from drop_eq_getElem_cons aix);have HD3:=aa (show jl.drop k=jl[k]::jl.drop (k+1)from drop_eq_getElem_cons aiy);generalize aL[k].2=ds at*;generalize kl[k]=x at*;generalize jl[k]=y at*;generalize ys[k]=z at*;obtain⟨z1,z2⟩:=z;dsimp only at hex hd;unfold cw at hex;unfold eh at hx1 hx2;go_upto_region 4 with fail;have RH:=hx1;have hcy:=hx2;have HG:=aB.new wr 117 #[ag z1.op,ag z1.v.k,af z1.v.n,.string z1.v.s,.string z1.name,af z1.width,.slice z1.A z1.n z1.c,.bool ds];have bV:=ah wr (.cells #[ag z1.op,ag z1.v.k,af z1.v.n,.string z1.v.s,.string z1.name,af z1.width,.slice z1.A z1.n z1.c,.bool ds] 117);have oy:=(apg.ae.later hb).later bV;have HZ:=(aph.ae.later hb).later bV;have N0:b2 < wr.heap.size:=Nat.lt_of_lt_of_le hb1 hb.size;have N3:Kx < wr.heap.size:=Nat.lt_of_lt_of_le hb2 hb.size;have HX:=aa (And.intro (bV.cell (p:=⟨b2,o1+k*3,none⟩) N0 |>.trans RH.1) (And.intro (bV.cell (p:=⟨b2,o1+k*3+1,none⟩) N0 |>.trans RH.2.1) (bV.cell (p:=⟨b2,o1+k*3+2,none⟩) N0 |>.trans RH.2.2)));have HYY:=aa (And.intro (bV.cell (p:=⟨Kx,o2+k*3,none⟩) N3 |>.trans hcy.1) (And.intro (bV.cell (p:=⟨Kx,o2+k*3+1,none⟩) N3 |>.trans hcy.2.1) (bV.cell (p:=⟨Kx,o2+k*3+2,none⟩) N3 |>.trans hcy.2.2)))
   have eL:=aa (Nat.lt_of_lt_of_le N0 bV.size);have fE:=aa (Nat.lt_of_lt_of_le N3 bV.size);have hB:=ai.then hb bV;generalize wr.alloc _=W2 at*;obtain⟨g8,Xp⟩:∃g8,g8=wr.heap.size:=⟨_,rfl⟩;rw[<- Xp] at HG ⊢;clear Xp hx1 hx2 RH hcy hex hd bV N0 N3 hb;refine bC 12 (c4V Lw g4 k b2 o1 Kx o2 (.slice (some ⟨b2,o1,none⟩) kl.length kc) (.slice (some ⟨Kx,o2,none⟩) jl.length jc) x y) (VO _ _ _ _ _ _ _ _ _ _ _) Taa Taa Taa ?_ ?_
   ·simp only[take_succ_cons,take_zero];refine⟨Zaa,?_,Zaa,?_,?_,Zaa,?_,Zaa,?_,?_,?_,Zaa,trivial⟩
    ·intro ρ w3 hc hL hr;have h0:_=_:=hr.1;have c0:=(oy.later hL).cell 1;exact ZaR
    ·intro ρ w3 hc hL hr;have h0:_=_:=hr.1;have h1:_=_:=hr.2.1;have tu:(k:Int)<(kl.length:Int):=by omega
     exact aq (w':=w3) (by simp[go_sem,h0,h1,tu,aix,et];done) ⟨ai.refl _,rfl⟩
    ·intro ρ w3 hc hL hr;have h0:_=_:=hr.1;have y0:=(hL.cell (p:=⟨b2,o1+k*3,none⟩) eL.ae).trans HX.ae.1;have y1:=(hL.cell (p:=⟨b2,o1+k*3+1,none⟩) eL.ae).trans HX.ae.2.1;have c2:=(hL.cell (p:=⟨b2,o1+k*3+2,none⟩) eL.ae).trans HX.ae.2.2;exact Zdo
    ·intro ρ w3 hc hL hr;have h0:_=_:=hr.1;have c0:=(HZ.later hL).cell 1;exact ZaR
    ·intro ρ w3 hc hL hr;have h0:_=_:=hr.1;have h1:_=_:=hr.2.1;have tu:(k:Int)<(jl.length:Int):=by omega
     exact aq (w':=w3) (by simp[go_sem,h0,h1,tu,aiy,et];done) ⟨ai.refl _,rfl⟩
    ·intro ρ w3 hc hL hr;have h0:_=_:=hr.1;have y0:=(hL.cell (p:=⟨Kx,o2+k*3,none⟩) fE.ae).trans HYY.ae.1;have y1:=(hL.cell (p:=⟨Kx,o2+k*3+1,none⟩) fE.ae).trans HYY.ae.2.1;have c2:=(hL.cell (p:=⟨Kx,o2+k*3+2,none⟩) fE.ae).trans HYY.ae.2.2;exact Zdo
    ·intro ρ w3 hc hL hr;have h0:_=_:=hr.1;have h1:_=_:=hr.2.1;have e1:=hc.func 18;refine bj (f:=18) (args:= #[.agg (aD x),.agg (aD y)]) (w':=w3) Tas ?_;refine(ed x y w3).mono ?_;exact Zbj
   intro W3 hL;simp only[Uab];rintro a0 - a1 - Ly - a3 - a4 - a5 - a6 - a7 - a8 - a9 - FA - _ rfl;simp only[bE,Act.put,Uac];have hst:rt=ow (Za ds x y) (ow (vQ ((aL.map λ x=>x.2).drop (k+1)) (kl.drop (k+1)) (jl.drop (k+1))) (bX rl sl)):=by rw[HP.ae,IC.ae,JN.ae,HD3.ae,QF,VP]
   have d7:=(HG.later hL).cell 7;simp only[Uaa] at d7;have hW:=ai.then hB hL;have hvb:=Hx x y;have mB:Za ds x y=if ds=true then -(bO x y)else bO x y:=rfl;rw[mB] at hst;clear mB HG oy HZ HX HYY eL fE hB hL HP IC JN HD3;generalize bO x y=vv at*;obtain⟨v1,v2⟩:=hvb;by_cases h0:vv=0
   ·subst h0;have q4:=Q4.ae;have HR:=aa (show rt=ow (vQ ((aL.map λ x=>x.2).drop (k+1)) (kl.drop (k+1)) (jl.drop (k+1))) (bX rl sl) by rw[hst];cases ds <;> exact Gy);clear hst v1 v2;cases ds
    ·exact ZcD
    ·exact ZcD
   ·cases ds
    ·have hr:rt=vv:=by rw[hst];exact M9 (by simpa using h0)
     subst hr;have t1:(rt != 0)=true:=by simpa using h0
     have t2:decide (rt=0)=false:=by simpa using h0
     clear hst h0;go_wp2_with fail;go_ret;exact⟨rfl,ai.then HB.ae hW⟩
    ·have hr:rt= -vv:=by rw[hst];exact M9 Tac
     have t1:((-vv) != 0)=true:=by simp;omega
     have t2:decide ((-vv)=0)=false:=by simp;omega
     have HMX:=aa hr;clear hst h0 hr;exact Zg8
  ·have fH:k=aL.length:=by omega
   have hr:rt=bX rl sl:=by rw[HP.ae,drop_eq_nil_of_le (by rw[length_map];omega)];exact Gy
   subst hr;have hra:=(sT.ae.later hb).row;have hrb:=(HBL.ae.later hb).row;dsimp only at hra hrb;have l1:=(apg.ae.later hb).cell 0;have l2:=(aph.ae.later hb).cell 0;simp only[getElem?_toArray,getElem?_cons_zero] at l1 l2;have hrw:=vJ rA rc rl sA sc sl wr hra hrb sT.ae.short HBL.ae.short;have HH:=aa hrw;clear hra hrb hrw HP;go_wp2_with fail;refine HH.ae.mono ?_;rintro e w1 ⟨rfl,b1⟩;go_wp2_with fail;go_ret;exact⟨rfl,ai.then HB.ae (ai.then hb b1)⟩
end Go.Proofs.YtndgjggokjickaaGreatDoor
namespace Go.Proofs.YtndgjggokjickaaGreatDoor.L
variable{p:Prop}
set_option maxHeartbeats 90000000
set_option maxRecDepth 100000
open Go.ChangeShapes Go.WideShapes Go.ChangeAt Go.RowKit List
set_option linter.unusedVariables false
set_option linter.unusedSimpArgs false
structure aP (ds:List Bool) (gp:Nat) where
 row:aW
 keys:aW
variable {ds:List Bool} {gp:Nat}
def aP.rv (x:aP ds gp):Value:=.slice x.row.A x.row.l.length x.row.c
def aP.kv (x:aP ds gp):Value:=.slice x.keys.A x.keys.l.length x.keys.c
def aP.s (x:aP ds gp):fk:=⟨x.row.l,x.keys.l⟩
def fW (x y:aP ds gp):Int:=vR ds x.s y.s
theorem Gz (x y:aP ds gp):fW y x= -(fW x y):=(mo ds).jh _ _
theorem VQ (x:aP ds gp):fW x x=0:=by have:=Gz x x;omega
theorem QG (x y z:aP ds gp)(h:fW x y<=0)(k:fW y z<=0):fW x z<=0:=(mo ds).trans _ _ _ h k
def RN (w:World)(g:Nat)(r:aW):Prop:=
 r.l=[]\/∃b off,r.A=some ⟨b,off,none⟩/\b < w.heap.size/\b≠g/\∀i x,r.l[i]?=some x->eh w b (off+i*3) x
variable{w w':World}{g:Nat}
theorem RN.rv{r:aW}(h:RN w g r)(hg:w.grownBy w' (some g)):RV w' w'.heap.size r.A r.l:=by
 rcases h with h |⟨b,off,h1,h2,h3,h4⟩
 ·exact .inl h
 ·refine .inr ⟨b,off,h1,Nat.lt_of_lt_of_le h2 hg.size,λ i x hx=>(h4 i x hx).keep λ o=>?_⟩;have hb:=hg.block b h2 (λ e=>h3 Tbh);unfold World.cell?;simp only[hb]
def At (w:World)(g n:Nat)(D:Nat->aP ds gp):Prop:=∃cs,aB w g 91 cs/\n*2<=cs.size/\∀i,i < n->cs[i*2]?=some (D i).rv/\cs[i*2+1]?=some (D i).kv
variable{n:Nat}{D:Nat->aP ds gp}
theorem At.cell(h:At w g n D)(i:Nat)(hi:i < n):w.cell? ⟨g,i*2,none⟩=some (.slice (D i).row.A (D i).row.l.length (D i).row.c):=by obtain⟨cs,hb,_,hc⟩:=h;rw[hb.cell,(hc i hi).1];rfl
theorem At.dF(h:At w g n D)(i:Nat)(hi:i < n):w.cell? ⟨g,i*2+1,none⟩=some (.slice (D i).keys.A (D i).keys.l.length (D i).keys.c):=by obtain⟨cs,hb,_,hc⟩:=h;rw[hb.cell,(hc i hi).2];rfl
theorem At.frozen(h:At w g n D)(i:Nat):w.frozen? ⟨g,i,none⟩=false:=by obtain⟨cs,hb,_,hc⟩:=h;exact hb.frozen i
theorem At.later(h:At w g n D)(hb:aj w w'):At w' g n D:=by obtain⟨cs,h1,h2,h3⟩:=h;exact⟨cs,h1.later hb,h2,h3⟩
def swp (D:Nat->aP ds gp)(i j:Nat):Nat->aP ds gp:=λ k=>if k=j then D i else if k=i then D j else D k
variable{cs:Array Value}{q:Nat}{u:Value}
theorem Ti{p:Nat} {v:Value}:(((cs.setIfInBounds (p*2) u).setIfInBounds (p*2+1) v))[q*2]?=(if q=p then(if p*2 < cs.size then some u else none)else cs[q*2]?)/\(((cs.setIfInBounds (p*2) u).setIfInBounds (p*2+1) v))[q*2+1]?=(if q=p then(if p*2+1 < cs.size then some v else none)else cs[q*2+1]?):=by
 rw[Array.getElem?_setIfInBounds,Array.getElem?_setIfInBounds,Array.getElem?_setIfInBounds,Array.getElem?_setIfInBounds];simp only[Array.size_setIfInBounds];constructor
 ·exact Zhx
 ·exact Zhx
theorem At.swap(h:At w g n D)(i j:Nat)(hi:i < n)(hj:j < n):At (((((w.setCell ⟨g,i*2,none⟩ (D j).rv).setCell ⟨g,i*2+1,none⟩ (D j).kv).setCell ⟨g,j*2,none⟩ (D i).rv).setCell ⟨g,j*2+1,none⟩ (D i).kv).drew) g n (swp D i j):=by
 obtain⟨cs,h1,h2,h3⟩:=h;refine⟨((((cs.setIfInBounds (i*2) (D j).rv).setIfInBounds (i*2+1) (D j).kv).setIfInBounds (j*2) (D i).rv).setIfInBounds (j*2+1) (D i).kv),((((h1.aT (i*2) _).aT (i*2+1) _).aT (j*2) _).aT (j*2+1) _).drew,by simpa using h2,λ k hk=>?_⟩;obtain⟨e0,e1⟩:=h3 k hk;unfold swp;obtain⟨a1,a2⟩:=Ti (cs:=(cs.setIfInBounds (i*2) (D j).rv).setIfInBounds (i*2+1) (D j).kv) (p:=j) (q:=k) (u:=(D i).rv) (v:=(D i).kv);obtain⟨b1,b2⟩:=Ti (cs:=cs) (p:=i) (q:=k) (u:=(D j).rv) (v:=(D j).kv);rw[a1,a2,b1,b2];simp only[Array.size_setIfInBounds];by_cases c1:k=j
 ·rw[if_pos c1,if_pos c1,if_pos c1,if_pos WC,if_pos WC];exact Zfy
 ·rw[if_neg c1,if_neg c1,if_neg c1];by_cases c2:k=i
  ·rw[if_pos c2,if_pos c2,if_pos c2,if_pos WC,if_pos WC];exact Zfy
  ·rw[if_neg c2,if_neg c2,if_neg c2];exact⟨e0,e1⟩
def afH (ds:List Bool)(gp:Nat)(w0:World)(g:Nat):Prop:=∀(x y:aP ds gp) W,w0.grownBy W (some g)->RN w0 g x.row->RN w0 g x.keys->RN w0 g y.row->RN w0 g y.keys->x.row.l.length<=1000->y.row.l.length<=1000->x.keys.l.length=ds.length->y.keys.l.length=ds.length->
 ar 39 #[aw gp,.agg #[.slice x.row.A x.row.l.length x.row.c,.slice x.keys.A x.keys.l.length x.keys.c],.agg #[.slice y.row.A y.row.l.length y.row.c,.slice y.keys.A y.keys.l.length y.keys.c]] W λ e w'=>e=.returned (af (fW x y))/\aj W w'
structure SS (w0:World) (g n:Nat) (w:World) (D:Nat->aP ds gp):Prop where
 at_:At w g n D
 grown:w0.grownBy w (some g)
 rows:∀k,k < n->RN w0 g (D k).row/\RN w0 g (D k).keys/\(D k).row.l.length<=1000/\(D k).keys.l.length=ds.length
 ord:afH ds gp w0 g
variable{w0:World}
theorem SS.later(h:SS w0 g n w D)(hb:aj w w'):SS w0 g n w' D:=⟨h.at_.later hb,aY h.grown (aR hb),h.rows,h.ord⟩
variable{W:World}
theorem SS.cmp(h:SS w0 g n w D)(i j:Nat)(hi:i < n)(hj:j < n)(hW:aj w W):
  ar 39 #[aw gp,.agg #[.slice (D i).row.A (D i).row.l.length (D i).row.c,.slice (D i).keys.A (D i).keys.l.length (D i).keys.c],.agg #[.slice (D j).row.A (D j).row.l.length (D j).row.c,.slice (D j).keys.A (D j).keys.l.length (D j).keys.c]] W λ e w'=>e=.returned (af (fW (D i) (D j)))/\aj W w':=
 h.ord _ _ W (aY h.grown (aR hW)) (h.rows i hi).1 (h.rows i hi).2.1 (h.rows j hj).1 (h.rows j hj).2.1 (h.rows i hi).2.2.1 (h.rows j hj).2.2.1 (h.rows i hi).2.2.2 (h.rows j hj).2.2.2
theorem SS.swap(h:SS w0 g n w D)(i j:Nat)(hi:i < n)(hj:j < n):SS w0 g n (((((w.setCell ⟨g,i*2,none⟩ (D j).rv).setCell ⟨g,i*2+1,none⟩ (D j).kv).setCell ⟨g,j*2,none⟩ (D i).rv).setCell ⟨g,j*2+1,none⟩ (D i).kv).drew) (swp D i j):=by
 refine⟨h.at_.swap i j hi hj,lS (aC (aC (aC (aC h.grown _ _) _ _) _ _) _ _),λ k hk=>?_,h.ord⟩;unfold swp;split
 ·exact h.rows i hi
 ·split
  ·exact h.rows j hj
  ·exact h.rows k hk
theorem SS.second(h:SS w0 g n w D)(i j:Nat)(hi:i < n)(hj:j < n)(x:aP ds gp):(∃v,(w.setCell ⟨g,i*2,none⟩ x.rv).cell? ⟨g,i*2+1,none⟩=some v)/\(∃v,((w.setCell ⟨g,i*2,none⟩ x.rv).setCell ⟨g,i*2+1,none⟩ x.kv).cell? ⟨g,j*2,none⟩=some v)/\∃v,(((w.setCell ⟨g,i*2,none⟩ x.rv).setCell ⟨g,i*2+1,none⟩ x.kv).setCell ⟨g,j*2,none⟩ (D i).rv).cell? ⟨g,j*2+1,none⟩=some v:=by
 obtain⟨cs,h1,h2,h3⟩:=h.at_;have JT:∀(cs:Array Value) k,k < cs.size->∃v,cs[k]?=some v:=λ cs k hk=>⟨_,Array.getElem?_eq_getElem hk⟩
 refine⟨?_,?_,?_⟩
 ·rw[(h1.aT _ _).cell];exact JT _ _ Tac
 ·rw[((h1.aT _ _).aT _ _).cell];exact JT _ _ Tac
 ·rw[(((h1.aT _ _).aT _ _).aT _ _).cell];exact JT _ _ Tac
def jo (D:Nat->aP ds gp)(a b c:Nat):Nat->aP ds gp:=λ k=>if a<=k/\k < a+c then D (k - a+b)else if b<=k/\k < b+c then D (k - b+a)else D k
theorem De (D:Nat->aP ds gp)(a b:Nat):jo D a b 0=D:=by funext k;unfold jo;rw[if_neg WC,if_neg WC]
theorem Df (D:Nat->aP ds gp)(a b i:Nat)(h:a+i < b):swp (jo D a b i) (a+i) (b+i)=jo D a b (i+1):=by funext k;unfold swp jo;exact Zdp
def Bu (w0:World)(g n:Nat)(D:Nat->aP ds gp)(e:Ending)(w':World):Prop:=e=.returned (.tuple #[])/\SS w0 g n w' D
theorem nI (w0:World)(g n cap a b c:Nat)(D:Nat->aP ds gp)(w:World)(h:SS w0 g n w D)(hn:n<=1000)(hab:a+c<=b)(hb:b+c<=n):
  ar 195 #[aH g n cap,af a,af b,af c,.func (.func 39) #[aw gp] #[]] w (Bu w0 g n (jo D a b c)):=by
 have HS:=aa h;clear h;have mixed:Tryz.prog.follows .mixedOrders=true:=by kernel_rfl
 go_enter Tryz.func195,Tryz.ntmps195;go_wp2_with fail;go_loopw [10] (λ iv wr=>∃i:Nat,i<=c/\iv=af i/\SS w0 g n wr (jo D a b i)) (λ iv _=>c - (intOf iv).toNat);case atStart=>exact⟨0,Nat.zero_le _,rfl,by rw[De];exact HS.ae⟩
 case round=>
  obtain⟨i,hi,rfl,hf⟩:=hrel;have H2:=aa hf;clear hf;by_cases hlt:i < c
  ·have c1:=H2.ae.at_.cell (a+i) WC;have lG:=H2.ae.at_.dF (a+i) WC;have c2:=H2.ae.at_.cell (b+i) WC;have lH:=H2.ae.at_.dF (b+i) WC;have f1:=H2.ae.at_.frozen ((a+i)*2);have f1k:=H2.ae.at_.frozen ((a+i)*2+1);have f2:=H2.ae.at_.frozen ((b+i)*2);have f2k:=H2.ae.at_.frozen ((b+i)*2+1);obtain⟨⟨u1,c3⟩,⟨u2,c4⟩,⟨u3,c5⟩⟩:=H2.ae.second (a+i) (b+i) WC WC (jo D a b i (b+i));have S3:=aa (H2.ae.swap (a+i) (b+i) WC WC);simp only[aP.rv,aP.kv] at c3 c4 c5 S3;go_upto_region 3 with fail;go_big_region_o;clear c1 c2 lG lH c3 c4 c5 f1 f2 f1k f2k;rw[Df D a b i WC] at S3;generalize hW3:World.drew _=W3 at S3 ⊢;clear hW3;go_wp2_with fail;go_roundw;case rel=>exact⟨i+1,hlt,by go_num,S3.ae⟩
   case measure=>exact Za1
  ·have GC:i=c:=by omega
   subst GC;go_wp2_with fail;exact bodyPost_ret (v:=.tuple #[]) (by simp[results,Tryz.results195,go_sem]) rfl ⟨rfl,H2.ae⟩
def ba (D:Nat->aP ds gp)(s m e:Nat):Nat->aP ds gp:=λ k=>if s<=k/\k < e then(if k < s+(e - m)then D (k+(m - s))else D (k - (e - m)))else D k
theorem MI (D:Nat->aP ds gp)(m i j:Nat)(hi:i<=m)(nP:j < i):ba (jo D (m - i) m j) (m - (i - j)) m (m+j)=ba D (m - i) m (m+j):=by funext k;unfold ba jo;exact Zdp
theorem MJ (D:Nat->aP ds gp)(m i j:Nat)(hi:i<=m)(nP:i < j):ba (jo D (m - i) (m+j - i) i) (m - i) m (m+(j - i))=ba D (m - i) m (m+j):=by funext k;unfold ba jo;exact Zdp
theorem MK (D:Nat->aP ds gp)(m i:Nat)(hi:i<=m):jo D (m - i) m i=ba D (m - i) m (m+i):=by funext k;unfold ba jo;exact Zdp
theorem fX (w0:World)(g n cap a m b:Nat)(D:Nat->aP ds gp)(w:World)(h:SS w0 g n w D)(hn:n<=1000)(N6:a < m)(N7:m < b)(hb:b<=n):
  ar 166 #[aH g n cap,af a,af m,af b,.func (.func 39) #[aw gp] #[]] w (Bu w0 g n (ba D a m b)):=by
 have HS:=aa h;clear h;go_enter Tryz.func166,Tryz.ntmps166;go_wp2_with fail;go_loopw [10,11] (λ iv jv wr=>∃(i j:Nat) (E:Nat->aP ds gp),0 < i/\0 < j/\a+i<=m/\m+j<=b/\iv=af i/\jv=af j/\SS w0 g n wr E/\ba E (m - i) m (m+j)=ba D a m b) (λ iv jv _=>(intOf iv).toNat+(intOf jv).toNat);case atStart=>refine⟨m - a,b - m,D,by omega,by omega,by omega,by omega,by go_num,by go_num,HS.ae,?_⟩;rw[show m - (m - a)=a by omega,show m+(b - m)=b by omega]
 case round=>
  obtain⟨i,j,E,kZ,hj0,hi,hj,rfl,rfl,hs,hr⟩:=hrel;have H2:=aa hs;have HR:=aa hr;clear hs hr;by_cases heq:i=j
  ·subst heq;have t1:((i:Int) !=(i:Int))=false:=by simp
   have z1:(m:Int) - (i:Int)=((m - i:Nat):Int):=by omega
   go_wp2_with fail;refine(nI w0 g n cap (m - i) m i E wr H2.ae hn WC WC).mono ?_;rintro e_ w1 ⟨rfl,hs⟩;rw[MK E m i WC,HR.ae] at hs;have H3:=aa hs;clear hs H2 HR z1 t1;go_wp2_with fail;exact bodyPost_ret (v:=.tuple #[]) (by simp[results,Tryz.results166,go_sem]) rfl ⟨rfl,H3.ae⟩
  ·have t1:((i:Int) !=(j:Int))=true:=by simp;omega
   have z1:(m:Int) - (i:Int)=((m - i:Nat):Int):=by omega
   by_cases hlt:j < i
   ·have t2:decide ((j:Int)<(i:Int))=true:=by simp;omega
    go_wp2_with fail;refine(nI w0 g n cap (m - i) m j E wr H2.ae hn WC WC).mono ?_;rintro e_ w1 ⟨rfl,hs⟩;have H3:=aa hs;have HR3:=aa ((MI E m i j WC hlt).trans HR.ae);clear hs H2 HR z1 t1;go_wp2_with fail;go_roundw;case rel=>exact⟨i - j,j,_,by omega,by omega,by omega,by omega,by go_num,rfl,H3.ae,HR3.ae⟩
    case measure=>exact Za1
   ·have t2:decide ((j:Int)<(i:Int))=false:=by simp;omega
    have z2:(m:Int)+(j:Int) - (i:Int)=((m+j - i:Nat):Int):=by omega
    go_wp2_with fail;refine(nI w0 g n cap (m - i) (m+j - i) i E wr H2.ae hn WC WC).mono ?_;rintro e_ w1 ⟨rfl,hs⟩;have H3:=aa hs;have HR3:=aa ((MJ E m i j WC WC).trans HR.ae);clear hs H2 HR z1 t1 z2;go_wp2_with fail;go_roundw;case rel=>exact⟨i,j - i,_,by omega,by omega,by omega,by omega,rfl,by go_num,H3.ae,HR3.ae⟩
    case measure=>exact Za1
def lt (x y:aP ds gp):Prop:=fW x y < 0
def le (x y:aP ds gp):Prop:=fW x y<=0
theorem le_refl (x:aP ds gp):le x x:=by unfold le;rw[VQ];omega
variable{x y z:aP ds gp}
theorem le_trans(h:le x y)(k:le y z):le x z:=QG _ _ _ h k
theorem le_of_lt(h:lt x y):le x y:=by unfold lt at h;unfold le;omega
theorem not_lt:¬lt x y↔le y x:=by unfold lt le;have:=Gz x y;omega
theorem zl(h:le x y)(k:lt y z):lt x z:=by
 refine Classical.byContradiction λ e=>?_
 have:=le_trans (not_lt.1 e) h;exact(not_lt.2 this) k
theorem zn(h:lt x y)(k:le y z):lt x z:=by
 refine Classical.byContradiction λ e=>?_
 have:=le_trans k (not_lt.1 e);exact(not_lt.2 this) h
def cE (D:Nat->aP ds gp)(a b:Nat):Prop:=∀i j,a<=i->i < j->j < b->le (D i) (D j)
variable{a b a' b':Nat}
theorem cE.mono(h:cE D a b)(h1:a<=a')(h2:b'<=b):cE D a' b':=λ i j hi hj hb=>h i j WC hj WC
variable{E:Nat->aP ds gp}
theorem cE.congr(h:cE D a b)(he:∀i,a<=i->i < b->E i=D i):cE E a b:=λ i j hi hj hb=>by rw[he i hi WC,he j WC hb];exact h i j hi hj hb
variable{i j:Nat}
theorem cE.le(h:cE D a b)(hi:a<=i)(nP:i<=j)(hj:j < b):le (D i) (D j):=by
 rcases Nat.lt_or_ge i j with h1 | h1
 ·exact h i j hi h1 hj
 ·rw[show i=j by omega];exact le_refl _
theorem cE.none(h:b<=a+1):cE D a b:=λ i j hi hj hb=>by omega
inductive Sw (a b:Nat) (D:Nat->aP ds gp):(Nat->aP ds gp)->Prop
 | refl:Sw a b D D
 | step {E:Nat->aP ds gp} {i j:Nat}:Sw a b D E->a<=i->i < b->a<=j->j < b->Sw a b D (swp E i j)
variable{F:Nat->aP ds gp}
theorem Sw.trans(h:Sw a b D E)(k:Sw a b E F):Sw a b D F:=by
 induction k with
 | refl=>exact h
 | step _ h1 h2 h3 h4 ih=>exact .step ih h1 h2 h3 h4
theorem Sw.mono(h:Sw a b D E)(h1:a'<=a)(h2:b<=b'):Sw a' b' D E:=by
 induction h with
 | refl=>exact .refl
 | step _ k1 k2 k3 k4 ih=>exact .step ih WC WC WC WC
theorem Sw.ae(h:Sw a b D E):∀k,k < a\/b<=k->E k=D k:=by
 induction h with
 | refl=>exact λ _ _=>rfl
 | step _ k1 k2 k3 k4 ih=>intro k hk;unfold swp;rw[if_neg WC,if_neg WC];exact ih k hk
theorem Sw.mem(h:Sw a b D E):∀k,a<=k->k < b->∃k',a<=k'/\k' < b/\E k=D k':=by
 induction h with
 | refl=>exact λ k h1 h2=>⟨k,h1,h2,rfl⟩
 | step _ k1 k2 k3 k4 ih=>
   intro k h1 h2;unfold swp;split
   ·exact ih _ k1 k2
   ·split
    ·exact ih _ k3 k4
    ·exact ih k h1 h2
theorem N8 (D:Nat->aP ds gp)(n i j:Nat)(hi:i < n)(hj:j < n):((List.range n).map (swp D i j)).Perm ((List.range n).map D):=by
 have hp:=Array.swap_perm (xs:=((List.range n).map D).toArray) (i:=i) (j:=j) TaE (by simpa using hj)
 have e:((List.range n).map (swp D i j)).toArray=((List.range n).map D).toArray.swap i j TaE (by simpa using hj):=by
  apply Array.ext
  ·simp
  ·intro k h1 h2;have hk:k < n:=by simpa using h1
   rw[Array.getElem_swap];simp only[getElem_toArray,getElem_map,getElem_range];unfold swp;exact ZeM
 have:=e▸hp;exact Array.perm_iff_toList_perm.1 this
theorem Sw.perm(h:Sw a b D E)(hb:b<=n):((List.range n).map E).Perm ((List.range n).map D):=by
 induction h with
 | refl=>exact .refl _
 | step _ k1 k2 k3 k4 ih=>exact(N8 _ n _ _ WC WC).trans ih
theorem wP (D:Nat->aP ds gp)(a b:Nat):∀c,a+c<=b->Sw a (b+c) D (jo D a b c)
 | 0,_=>by rw[De];exact .refl
 | c+1,h=>by rw[<- Df D a b c WC];exact .step ((wP D a b c WC).mono (Nat.le_refl _) WC) WC WC WC WC
theorem aiB (D:Nat->aP ds gp)(m:Nat):∀N i j,i+j<=N->0 < i->0 < j->i<=m->Sw (m - i) (m+j) D (ba D (m - i) m (m+j)):=by
 intro N
 induction N generalizing D with
 | zero=>intro i j h h0 h1;omega
 | succ N ih=>
   intro i j h h0 h1 Ro;rcases Nat.lt_trichotomy i j with h2 | h2 | h2
   ·have h3:=ih (jo D (m - i) (m+j - i) i) i (j - i) WC h0 WC Ro;rw[MJ D m i j Ro h2] at h3;exact((wP D (m - i) (m+j - i) i WC).mono (Nat.le_refl _) WC).trans (h3.mono (Nat.le_refl _) WC)
   ·subst h2;rw[<- MK D m i Ro];exact wP D (m - i) m i WC
   ·have h3:=ih (jo D (m - i) m j) (i - j) j WC WC h1 WC;rw[MI D m i j Ro h2] at h3;exact((wP D (m - i) m j WC).mono (Nat.le_refl _) WC).trans (h3.mono WC (Nat.le_refl _))
theorem nr (D:Nat->aP ds gp)(s m e:Nat)(h1:s < m)(h2:m < e):Sw s e D (ba D s m e):=by have:=aiB D m (m - s+(e - m)) (m - s) (e - m) (Nat.le_refl _) WC WC WC;rwa [show m - (m - s)=s by omega,show m+(e - m)=e by omega] at this
theorem yq (D:Nat->aP ds gp)(m e:Nat):ba D m m e=D:=by exact Zgc
theorem uO (D:Nat->aP ds gp)(s m:Nat):ba D s m m=D:=by exact Zgc
def Ins (E:Nat->aP ds gp)(a i j:Nat):Prop:=(∀p q,a<=p->p < q->q<=i->p≠j->q≠j->le (E p) (E q))/\∀q,j < q->q<=i->le (E j) (E q)
theorem Ins.start(h:cE D a i):Ins D a i i:=⟨λ p q h1 h2 h3 h4 h5=>h p q h1 h2 WC,λ q h1 h2=>by omega⟩
theorem Ins.step(h:Ins E a i j)(hj:a < j)(Xf:j<=i)(hl:lt (E j) (E (j - 1))):Ins (swp E j (j - 1)) a i (j - 1):=by
 constructor
 ·intro p q h1 h2 h3 h4 h5;unfold swp;rw[if_neg h4,if_neg h5];by_cases e1:p=j
  ·subst e1;rw[if_pos rfl,if_neg WC];exact h.1 (p - 1) q WC WC h3 WC WC
  ·rw[if_neg e1];by_cases e2:q=j
   ·subst e2;rw[if_pos rfl];exact h.1 p (q - 1) h1 WC WC e1 WC
   ·rw[if_neg e2];exact h.1 p q h1 h2 h3 e1 e2
 ·intro q h1 h2;unfold swp;rw[if_pos rfl,if_neg WC];by_cases e2:q=j
  ·subst e2;rw[if_pos rfl];exact le_of_lt hl
  ·rw[if_neg e2];exact h.2 q WC h2
theorem Ins.stop(h:Ins E a i j)(hj:a<=j)(hs:j=a\/¬lt (E j) (E (j - 1))):cE E a (i+1):=by
 intro p q h1 h2 h3;by_cases e1:p=j
 ·subst e1;exact h.2 q h2 WC
 ·by_cases e2:q=j
  ·subst e2;rcases hs with hs | hs
   ·omega
   ·have h4:=not_lt.1 hs;by_cases e3:p=q - 1
    ·rw[e3];exact h4
    ·exact le_trans (h.1 p (q - 1) h1 WC WC e1 WC) h4
  ·exact h.1 p q h1 h2 WC e1 e2
def zD (D:Nat->aP ds gp)(a k:Nat):Nat->aP ds gp:=λ x=>if a<=x/\x < k then D (x+1)else if x=k then D a else D x
theorem GD (D:Nat->aP ds gp)(a:Nat):zD D a a=D:=by funext x;unfold zD;exact ZeM
theorem GF (D:Nat->aP ds gp)(a k:Nat)(h:a<=k):swp (zD D a k) k (k+1)=zD D a (k+1):=by funext x;unfold swp zD;exact Zf9
theorem Tj (D:Nat->aP ds gp)(a:Nat):∀d,Sw a (a+d+1) D (zD D a (a+d))
 | 0=>by show Sw a (a+0+1) D (zD D a a);rw[GD];exact .refl
 | d+1=>by rw[show a+(d+1)=a+d+1 by omega,<- GF D a (a+d) WC];exact .step ((Tj D a d).mono (Nat.le_refl _) WC) WC WC WC WC
theorem N9(hs:cE D (a+1) b)(hi:a+1<=i)(hib:i<=b)(h1:∀h,a+1<=h->h < i->lt (D h) (D a))(h2:∀h,i<=h->h < b->¬lt (D h) (D a)):cE (zD D a (i - 1)) a b:=by
 intro p q hp X9 hq;unfold zD;by_cases c1:a<=p/\p < i - 1
 ·rw[if_pos c1];by_cases c2:a<=q/\q < i - 1
  ·rw[if_pos c2];exact hs (p+1) (q+1) WC WC WC
  ·rw[if_neg c2];by_cases c3:q=i - 1
   ·rw[if_pos c3];exact le_of_lt (h1 (p+1) WC WC)
   ·rw[if_neg c3];exact hs.le WC WC hq
 ·rw[if_neg c1];have c2:¬(a<=q/\q < i - 1):=by omega
  rw[if_neg c2];have c3:q≠i - 1:=by omega
  rw[if_neg c3];by_cases c4:p=i - 1
  ·rw[if_pos c4];exact not_lt.1 (h2 q WC hq)
  ·rw[if_neg c4];exact hs p q WC X9 hq
def Bv (D:Nat->aP ds gp)(k m:Nat):Nat->aP ds gp:=λ x=>if x=k then D m else if k < x/\x<=m then D (x - 1)else D x
theorem GG (D:Nat->aP ds gp)(m:Nat):Bv D m m=D:=by funext x;unfold Bv;exact ZeM
theorem GH (D:Nat->aP ds gp)(k m:Nat)(h0:0 < k)(h:k<=m):swp (Bv D k m) k (k - 1)=Bv D (k - 1) m:=by funext x;unfold swp Bv;exact Zf9
theorem Tk (D:Nat->aP ds gp)(m:Nat):∀d,d<=m->Sw (m - d) (m+1) D (Bv D (m - d) m)
 | 0,_=>by rw[Nat.sub_zero,GG];exact .refl
 | d+1,h=>by rw[show m - (d+1)=m - d - 1 by omega,<- GH D (m - d) m WC WC];exact .step ((Tk D m d WC).mono WC (Nat.le_refl _)) WC WC WC WC
variable{m:Nat}
theorem O0(hs:cE D a m)(hi:a<=i)(Ro:i<=m)(h1:∀h,a<=h->h < i->¬lt (D m) (D h))(h2:∀h,i<=h->h < m->lt (D m) (D h)):cE (Bv D i m) a (m+1):=by
 intro p q hp X9 hq;unfold Bv;by_cases c1:p=i
 ·rw[if_pos c1,if_neg WC,if_pos WC];exact le_of_lt (h2 (q - 1) WC WC)
 ·rw[if_neg c1];by_cases c2:i < p/\p<=m
  ·rw[if_pos c2,if_neg WC,if_pos WC];exact hs.le WC WC WC
  ·rw[if_neg c2];by_cases c3:q=i
   ·rw[if_pos c3];exact not_lt.1 (h1 p hp WC)
   ·rw[if_neg c3];by_cases c4:i < q/\q<=m
    ·rw[if_pos c4];exact hs.le hp WC WC
    ·rw[if_neg c4];exact hs p q hp X9 WC
structure Found (D:Nat->aP ds gp) (p s0 r0 s r:Nat):Prop where
 low:∀c,s0<=c->c < s->¬lt (D (p - c)) (D c)
 high:∀c,r<=c->c < r0->lt (D (p - c)) (D c)
structure yI (a m b mid s0 r0:Nat):Prop where
 ab:a < m/\m < b
 asA:mid=(a+b)/ 2
 ends:(m > mid/\s0=mid+m - b/\r0=mid)\/(m<=mid/\s0=a/\r0=m)
variable{mid s0 r0 r c:Nat}
theorem Found.go{s:Nat}(he:yI a m b mid s0 r0)(h1:cE D a m)(h2:cE D m b)(h:Found D (mid+m - 1) s0 r0 s r)(hs:s0<=s)(hr:r<=r0)(hc:s<=c)(hc2:c < r):
  (¬lt (D (mid+m - 1 - c)) (D c)->Found D (mid+m - 1) s0 r0 (c+1) r)/\(lt (D (mid+m - 1 - c)) (D c)->Found D (mid+m - 1) s0 r0 s c):=by
 obtain⟨⟨e1,e2⟩,rfl,e3⟩:=he;constructor
 ·intro hn;refine⟨λ d hd SY=>?_,h.high⟩;have a1:le (D d) (D c):=h1.le WC WC WC;have a2:le (D ((a+b)/ 2+m - 1 - c)) (D ((a+b)/ 2+m - 1 - d)):=h2.le WC WC WC;exact not_lt.2 (le_trans (le_trans a1 (not_lt.1 hn)) a2)
 ·intro hl;refine⟨h.low,λ d hd SY=>?_⟩;have a1:le (D c) (D d):=h1.le WC WC WC;have a2:le (D ((a+b)/ 2+m - 1 - d)) (D ((a+b)/ 2+m - 1 - c)):=h2.le WC WC WC;exact zn (zl a2 hl) a1
theorem VR{s:Nat}(he:yI a m b mid s0 r0)(h1:cE D a m)(h2:cE D m b)(h:Found D (mid+m - 1) s0 r0 s s)(hs:s0<=s)(hr:s<=r0):
  cE (ba D s m (mid+m - s)) a s/\cE (ba D s m (mid+m - s)) s mid/\cE (ba D s m (mid+m - s)) mid (mid+m - s)/\cE (ba D s m (mid+m - s)) (mid+m - s) b/\
  ∀x y,a<=x->x < mid->mid<=y->y < b->le (ba D s m (mid+m - s) x) (ba D s m (mid+m - s) y):=by
 obtain⟨⟨e1,e2⟩,e0,e3⟩:=he;have b1:a<=s/\s<=m/\s<=mid:=by omega
 have b2:m<=mid+m - s/\mid+m - s<=b:=by omega
 obtain⟨f,hf⟩:∃f,f=mid+m - s:=⟨_,rfl⟩;rw[<- hf] at b2 ⊢;have r1:∀x,x < s->ba D s m f x=D x:=λ x hx=>by unfold ba;rw[if_neg WC]
 have r2:∀x,s<=x->x < mid->ba D s m f x=D (x+(m - s)):=λ x hx hx2=>by unfold ba;rw[if_pos WC,if_pos WC]
 have r3:∀x,mid<=x->x < f->ba D s m f x=D (x - (f - m)):=λ x hx hx2=>by unfold ba;rw[if_pos WC,if_neg WC]
 have r4:∀x,f<=x->ba D s m f x=D x:=λ x hx=>by unfold ba;rw[if_neg WC]
 refine⟨λ i j hi hj hb=>?_,λ i j hi hj hb=>?_,λ i j hi hj hb=>?_,λ i j hi hj hb=>?_,λ x y hx hx2 hy fM=>?_⟩
 ·rw[r1 i WC,r1 j hb];exact h1 i j hi hj WC
 ·rw[r2 i hi WC,r2 j WC hb];exact h2 _ _ WC WC WC
 ·rw[r3 i hi WC,r3 j WC hb];exact h1 _ _ WC WC WC
 ·rw[r4 i hi,r4 j WC];exact h2 _ _ WC hj hb
 ·by_cases c1:x < s
  ·rw[r1 x c1];by_cases c2:y < f
   ·rw[r3 y hy c2];exact h1.le hx WC WC
   ·rw[r4 y WC];have h3:=h.low (s - 1) WC WC;have h4:=not_lt.1 h3;rw[show mid+m - 1 - (s - 1)=f by omega] at h4;exact le_trans (h1.le hx (show x<=s - 1 by omega) WC) (le_trans h4 (h2.le WC WC fM))
  ·rw[r2 x WC hx2];by_cases c2:y < f
   ·rw[r3 y hy c2];have h3:=h.high s (Nat.le_refl _) WC;rw[show mid+m - 1 - s=f - 1 by omega] at h3;exact le_trans (h2.le WC (show x+(m - s)<=f - 1 by omega) WC) (le_trans (le_of_lt h3) (h1.le WC WC WC))
   ·rw[r4 y WC];exact h2.le WC WC fM
theorem jd(hm:a<=mid/\mid<=b)(h:∀x y,a<=x->x < mid->mid<=y->y < b->le (D x) (D y))(k1:Sw a mid D E)(k2:Sw mid b E F)(s1:cE E a mid)(s2:cE F mid b):cE F a b/\Sw a b D F:=by
 refine⟨λ i j hi hj hb=>?_,(k1.mono (Nat.le_refl _) hm.2).trans (k2.mono hm.1 (Nat.le_refl _))⟩;by_cases c1:j < mid
 ·rw[k2.ae i (.inl WC),k2.ae j (.inl c1)];exact s1 i j hi hj c1
 ·by_cases c2:mid<=i
  ·exact s2 i j c2 hj hb
  ·rw[k2.ae i (.inl WC)];obtain⟨i',h1,h2,h3⟩:=k1.mem i hi WC;obtain⟨j',h4,h5,h6⟩:=k2.mem j WC hb;rw[h3,h6,k1.ae j' (.inr h4)];exact h i' j' h1 h2 h4 h5
def bu (w0:World)(g n a b:Nat)(D:Nat->aP ds gp)(e:Ending)(w':World):Prop:=e=.returned (.tuple #[])/\∃E,SS w0 g n w' E/\Sw a b D E/\cE E a b
theorem za9.Kaf(h:p:=by
 have c1:=H3.ae.at_.cell (m+1) WC;have lG:=H3.ae.at_.dF (m+1) WC;have c2:=H3.ae.at_.cell m WC;have lH:=H3.ae.at_.dF m WC;have f1:=H3.ae.at_.frozen ((m+1)*2);have f1k:=H3.ae.at_.frozen ((m+1)*2+1);have f2:=H3.ae.at_.frozen (m*2);have f2k:=H3.ae.at_.frozen (m*2+1);obtain⟨⟨u1,c3⟩,⟨u2,c4⟩,⟨u3,c5⟩⟩:=H3.ae.second (m+1) m WC WC (E m);have S3:=aa (H3.ae.swap (m+1) m WC WC);simp only[aP.rv,aP.kv] at c3 c4 c5 S3;go_upto_region 6 with fail;go_big_region_o;clear c1 c2 lG lH c3 c4 c5 f1 f2 f1k f2k;generalize hW3:World.drew _=W3 at S3 ⊢;clear hW3;have SI:=aa (HO.ae.step hja hj (by simpa using HL.ae));have SW:=aa (Sw.step (i:=m+1) (j:=m) HW.ae WC WC WC WC);clear HO HW HL;go_wp2_with fail;go_roundw;case rel=>exact⟨m,_,by omega,by omega,by go_num,S3.ae,SW.ae,SI.ae⟩
 case measure=>simp[intOf]):p:=h
theorem zba.Kaf(h:p:=by have SO:=aa (HO.ae.stop hj0 (.inr (by simpa using HL.ae)));exact Ze1):p:=h
theorem zdI.KaG(h:p:=by clear fM y2;have H3:=aa (H2.ae.later hL);clear H2 hL;exact Ze1):p:=h
theorem tR (w0:World)(g n cap a b:Nat)(D:Nat->aP ds gp)(w:World)(h:SS w0 g n w D)(hn:n<=1000)(hab:a<=b)(hb:b<=n):
  ar 105 #[aH g n cap,af a,af b,.func (.func 39) #[aw gp] #[]] w (bu w0 g n a b D):=by
 have HS:=aa h;have mixed:Tryz.prog.follows .mixedOrders=true:=by kernel_rfl
 clear h;go_enter Tryz.func105,Tryz.ntmps105;go_wp2_with fail;go_loopw [8] (λ iv wr=>∃(i:Nat) (Kx:Nat->aP ds gp),a < i/\(i<=b\/i=a+1)/\iv=af i/\SS w0 g n wr Kx/\Sw a b D Kx/\cE Kx a i) (λ iv _=>b - (intOf iv).toNat);case atStart=>exact⟨a+1,D,by omega,.inr rfl,by go_num,HS.ae,.refl,.none WC⟩
 case round=>
  clear HS;obtain⟨i,Kx,kZ,hi,rfl,q4,q5,Av⟩:=hrel;have H2:=aa q4;have HW:=aa q5;have HO:=aa Av;clear q4 q5 Av;by_cases hlt:i < b
  ·go_wp2_with fail;go_loopw [9] (λ jv wr2=>∃(j:Nat) (E:Nat->aP ds gp),a<=j/\j<=i/\jv=af j/\SS w0 g n wr2 E/\Sw a b D E/\Ins E a i j) (λ jv _=>(intOf jv).toNat);case atStart=>exact⟨i,Kx,by omega,Nat.le_refl _,rfl,H2.ae,HW.ae,.start HO.ae⟩
   case round=>
    clear H2 HW HO;obtain⟨j,E,hj0,hj,rfl,q4,q5,Av⟩:=hrel;have H2:=aa q4;have HW:=aa q5;have HO:=aa Av;clear q4 q5 Av;by_cases hja:a < j
    ·obtain⟨m,rfl⟩:∃q,j=q+1:=⟨j - 1,by omega⟩;have t1:decide ((a:Int)<(m:Int)+1)=true:=decide_eq_true WC;have t1':decide ((a:Int)<((m+1:Nat):Int))=true:=decide_eq_true WC;go_upto_region 4 with fail;have c1:=λ q:Ext wr.heap.size wr=>(H2.ae.at_.later q.h).cell (m+1) WC
     have lG:=λ q:Ext wr.heap.size wr=>(H2.ae.at_.later q.h).dF (m+1) WC
     have c2:=λ q:Ext wr.heap.size wr=>(H2.ae.at_.later q.h).cell m WC
     have lH:=λ q:Ext wr.heap.size wr=>(H2.ae.at_.later q.h).dF m WC
     have hc:=λ q:Ext wr.heap.size wr=>H2.ae.cmp (m+1) m WC WC q.h
     by_cases hl:fW (E (m+1)) (E m)< 0
     ·have t2:=decide_eq_true hl;have HL:=aa (show lt (E (m+1)) (E m)from hl);clear hl;refine aM 17 wr.heap.size wr (Below.refl _ _) Taa Taa Taa Taa ?_;open za9 in exact Zaw
     ·have t2:=decide_eq_false hl;have HL:=aa (show¬lt (E (m+1)) (E m)from hl);clear hl;refine aM 17 wr.heap.size wr (Below.refl _ _) Taa Taa Taa Taa ?_;open zba in exact Zaw
    ·have t1:decide ((a:Int)<(j:Int))=false:=decide_eq_false WC;have SO:=aa (HO.ae.stop hj0 (.inl WC));go_upto_region 4 with fail;refine aM 17 wr.heap.size wr (Below.refl _ _) Taa Taa Taa Taa ?_;simp only[List.append,Uab];open zdI in exact ZbB
  ·have HE:=aa (HO.ae.mono (Nat.le_refl a) (show b<=i by omega));go_wp2_with fail;exact bodyPost_ret (v:=.tuple #[]) Tbi rfl ⟨rfl,Kx,H2.ae,HW.ae,HE.ae⟩
theorem zbb.Kaf(h:p:=by have Ey:=aa (show∀h,a+1<=h->h < m+1->lt (D h) (D a)from λ h h1 h2=>zl (Q5.ae.le h1 (show h<=m by omega) WC) HX.ae);exact Zd5):p:=h
theorem zbc.Kaf(h:p:=by have HH2:=aa (show∀h,m<=h->h < b->¬lt (D h) (D a)from λ h h1 h2=>not_lt.2 (le_trans (not_lt.1 HX.ae) (Q5.ae.le WC h1 h2)));exact ZeG):p:=h
theorem zet.KaR(h:p:=by
 have c1:=λ q:Ext wr.heap.size wr=>(H2.ae.at_.later q.h).cell (m) WC
 have lG:=λ q:Ext wr.heap.size wr=>(H2.ae.at_.later q.h).dF (m) WC
 have c2:=λ q:Ext wr.heap.size wr=>(H2.ae.at_.later q.h).cell (a) WC
 have lH:=λ q:Ext wr.heap.size wr=>(H2.ae.at_.later q.h).dF (a) WC
 have hc:=λ q:Ext wr.heap.size wr=>H2.ae.cmp (m) (a) WC WC q.h
 by_cases z1:fW (D (m)) (D (a))< 0
 ·have t2:=decide_eq_true z1;have HX:=aa (show lt (D (m)) (D (a))from z1);clear z1;refine aM 11 wr.heap.size wr (Below.refl _ _) Taa Taa Taa Taa ?_;open zbb in exact Zaw
 ·have t2:=decide_eq_false z1;have HX:=aa (show¬lt (D (m)) (D (a))from z1);clear z1;refine aM 11 wr.heap.size wr (Below.refl _ _) Taa Taa Taa Taa ?_;open zbc in exact Zaw):p:=h
theorem adh (w0:World)(g n cap a b:Nat)(D:Nat->aP ds gp)(w:World)(h:SS w0 g n w D)(hn:n<=1000)(hab:a+1 < b)(hb:b<=n)(q5:cE D (a+1) b):
  ar 106 #[aH g n cap,af a,af (a+1),af b,.func (.func 39) #[aw gp] #[]] w (bu w0 g n a b D):=by
 have HS:=aa h;have Q5:=aa q5;have mixed:Tryz.prog.follows .mixedOrders=true:=by kernel_rfl
 clear h q5;have t1:((a:Int)+1 - (a:Int)==1)=true:=by simp;omega
 go_enter Tryz.func106,Tryz.ntmps106;go_wp2_with fail;clear t1;go_loopw [10,11] (λ iv jv wr=>∃i j:Nat,a+1<=i/\i<=j/\j<=b/\iv=af i/\jv=af j/\SS w0 g n wr D/\(∀h,a+1<=h->h < i->lt (D h) (D a))/\∀h,j<=h->h < b->¬lt (D h) (D a)) (λ iv jv _=>(intOf jv).toNat - (intOf iv).toNat);case atStart=>exact⟨a+1,b,by omega,by omega,by omega,by go_num,rfl,HS.ae,λ h h1 h2=>by omega,λ h h1 h2=>by omega⟩
 case round=>
  clear HS;obtain⟨i,j,hi,nP,hj,rfl,rfl,hs,z1,hh⟩:=hrel;have H2:=aa hs;have HL:=aa z1;have HH:=aa hh;clear hs z1 hh;by_cases hlt:i < j
  ·go_upto_region 5 with fail;open zet in exact Zch
  ·have E3:j=i:=by omega
   subst E3;have HF:=aa (N9 Q5.ae hi hj HL.ae HH.ae);have HW:=aa ((Tj D a (j - 1 - a)).mono (Nat.le_refl _) (show a+(j - 1 - a)+1<=b by omega));rw[show a+(j - 1 - a)=j - 1 by omega] at HW;clear HL HH Q5 hlt nP;have zj:(j:Int) - 1=((j - 1:Nat):Int):=by omega
   go_wp2_with fail;go_loopw [13] (λ kv wr2=>∃k:Nat,a<=k/\k<=j - 1/\kv=af k/\SS w0 g n wr2 (zD D a k)) (λ kv _=>j - (intOf kv).toNat);case atStart=>exact⟨a,Nat.le_refl _,by omega,rfl,by rw[GD];exact H2.ae⟩
   case round=>
    clear H2;obtain⟨k,hk0,hk,rfl,hs⟩:=hrel;have H2:=aa hs;clear hs;by_cases hlt:k < j - 1
    ·have t2:decide ((k:Int)<((j - 1:Nat):Int))=true:=decide_eq_true WC;have c1:=H2.ae.at_.cell (k) WC;have lG:=H2.ae.at_.dF (k) WC;have c2:=H2.ae.at_.cell (k+1) WC;have lH:=H2.ae.at_.dF (k+1) WC;have f1:=H2.ae.at_.frozen ((k)*2);have f1k:=H2.ae.at_.frozen ((k)*2+1);have f2:=H2.ae.at_.frozen ((k+1)*2);have f2k:=H2.ae.at_.frozen ((k+1)*2+1);obtain⟨⟨u1,c3⟩,⟨u2,c4⟩,⟨u3,c5⟩⟩:=H2.ae.second (k) (k+1) WC WC (zD D a k (k+1));have S3:=aa (H2.ae.swap (k) (k+1) WC WC);simp only[aP.rv,aP.kv] at c3 c4 c5 S3;go_upto_region 11 with fail;go_big_region_o;clear c1 c2 lG lH c3 c4 c5 f1 f2 f1k f2k;rw[GF D a k hk0] at S3;generalize hW3:World.drew _=W3 at S3 ⊢;clear hW3;go_wp2_with fail;go_roundw;case rel=>exact⟨k+1,by omega,by omega,by go_num,S3.ae⟩
     case measure=>first |(simp[intOf];done)|(simp[intOf];omega)
    ·have t2:decide ((k:Int)<((j - 1:Nat):Int))=false:=decide_eq_false WC;have GC:k=j - 1:=by omega
     exact ZeO
theorem zbd.Kaf(h:p:=by have HH2:=aa (show∀h,m<=h->h < Kx->lt (D Kx) (D h)from λ h h1 h2=>zn HX.ae (Q5.ae.le WC h1 h2));exact ZeG):p:=h
theorem zbe.Kaf(h:p:=by have Ey:=aa (show∀h,a<=h->h < m+1->¬lt (D Kx) (D h)from λ h h1 h2=>not_lt.2 (le_trans (Q5.ae.le h1 (show h<=m by omega) WC) (not_lt.1 HX.ae)));exact Zd5):p:=h
theorem zeu.KaR(h:p:=by
 have c1:=λ q:Ext wr.heap.size wr=>(H2.ae.at_.later q.h).cell (Kx) WC
 have lG:=λ q:Ext wr.heap.size wr=>(H2.ae.at_.later q.h).dF (Kx) WC
 have c2:=λ q:Ext wr.heap.size wr=>(H2.ae.at_.later q.h).cell (m) WC
 have lH:=λ q:Ext wr.heap.size wr=>(H2.ae.at_.later q.h).dF (m) WC
 have hc:=λ q:Ext wr.heap.size wr=>H2.ae.cmp (Kx) (m) WC WC q.h
 by_cases z1:fW (D (Kx)) (D (m))< 0
 ·have t2:=decide_eq_true z1;have HX:=aa (show lt (D (Kx)) (D (m))from z1);clear z1;refine aM 12 wr.heap.size wr (Below.refl _ _) Taa Taa Taa Taa ?_;open zbd in exact Zaw
 ·have t2:=decide_eq_false z1;have HX:=aa (show¬lt (D (Kx)) (D (m))from z1);clear z1;refine aM 12 wr.heap.size wr (Below.refl _ _) Taa Taa Taa Taa ?_;open zbe in exact Zaw):p:=h
theorem adi (w0:World)(g n cap a Kx:Nat)(D:Nat->aP ds gp)(w:World)(h:SS w0 g n w D)(hn:n<=1000)(hab:a+1 < Kx)(hb:Kx+1<=n)(q5:cE D a Kx):
  ar 106 #[aH g n cap,af a,af Kx,af (Kx+1),.func (.func 39) #[aw gp] #[]] w (bu w0 g n a (Kx+1) D):=by
 have HS:=aa h;have Q5:=aa q5;have mixed:Tryz.prog.follows .mixedOrders=true:=by kernel_rfl
 clear h q5;have t0:((Kx:Int) - (a:Int)==1)=false:=by simp;omega
 have t1:((Kx:Int)+1 - (Kx:Int)==1)=true:=by simp;omega
 go_enter Tryz.func106,Tryz.ntmps106;go_wp2_with fail;clear t0 t1;go_loopw [14,15] (λ iv jv wr=>∃i j:Nat,a<=i/\i<=j/\j<=Kx/\iv=af i/\jv=af j/\SS w0 g n wr D/\(∀h,a<=h->h < i->¬lt (D Kx) (D h))/\∀h,j<=h->h < Kx->lt (D Kx) (D h)) (λ iv jv _=>(intOf jv).toNat - (intOf iv).toNat);case atStart=>exact⟨a,Kx,by omega,by omega,by omega,rfl,rfl,HS.ae,λ h h1 h2=>by omega,λ h h1 h2=>by omega⟩
 case round=>
  clear HS;obtain⟨i,j,hi,nP,hj,rfl,rfl,hs,z1,hh⟩:=hrel;have H2:=aa hs;have HL:=aa z1;have HH:=aa hh;clear hs z1 hh;by_cases hlt:i < j
  ·go_upto_region 17 with fail;open zeu in exact Zch
  ·have E3:j=i:=by omega
   subst E3;have HF:=aa (O0 Q5.ae hi hj HL.ae HH.ae);have HW:=aa ((Tk D Kx (Kx - j) WC).mono (show a<=Kx - (Kx - j) by omega) (Nat.le_refl _));rw[show Kx - (Kx - j)=j by omega] at HW;clear HL HH Q5 hlt nP;go_wp2_with fail;go_loopw [17] (λ kv wr2=>∃k:Nat,j<=k/\k<=Kx/\kv=af k/\SS w0 g n wr2 (Bv D k Kx)) (λ kv _=>(intOf kv).toNat);case atStart=>exact⟨Kx,by omega,by omega,rfl,by rw[GG];exact H2.ae⟩
   case round=>
    clear H2;obtain⟨k,hk0,hk,rfl,hs⟩:=hrel;have H2:=aa hs;clear hs;by_cases hlt:j < k
    ·obtain⟨kp,rfl⟩:∃q,k=q+1:=⟨k - 1,by omega⟩;have t2:decide ((j:Int)<(kp:Int)+1)=true:=decide_eq_true WC;have t2':decide ((j:Int)<((kp+1:Nat):Int))=true:=decide_eq_true WC;have c1:=H2.ae.at_.cell (kp+1) WC;have lG:=H2.ae.at_.dF (kp+1) WC;have c2:=H2.ae.at_.cell (kp) WC;have lH:=H2.ae.at_.dF (kp) WC;have f1:=H2.ae.at_.frozen ((kp+1)*2);have f1k:=H2.ae.at_.frozen ((kp+1)*2+1);have f2:=H2.ae.at_.frozen ((kp)*2);have f2k:=H2.ae.at_.frozen ((kp)*2+1);obtain⟨⟨u1,c3⟩,⟨u2,c4⟩,⟨u3,c5⟩⟩:=H2.ae.second (kp+1) (kp) WC WC (Bv D (kp+1) Kx (kp));have S3:=aa (H2.ae.swap (kp+1) (kp) WC WC);simp only[aP.rv,aP.kv] at c3 c4 c5 S3;go_upto_region 23 with fail;go_big_region_o;clear c1 c2 lG lH c3 c4 c5 f1 f2 f1k f2k;have e9:=GH D (kp+1) Kx WC hk;rw[show kp+1 - 1=kp by omega] at e9;rw[e9] at S3;generalize hW3:World.drew _=W3 at S3 ⊢;clear hW3;go_wp2_with fail;go_roundw;case rel=>exact⟨kp,by omega,by omega,by go_num,S3.ae⟩
     case measure=>first |(simp[intOf];done)|(simp[intOf];omega)
    ·have t2:decide ((j:Int)<(k:Int))=false:=decide_eq_false WC;have GC:k=j:=by omega
     exact ZeO
theorem Found.goP{s p:Nat}(hp:p=mid+m - 1)(he:yI a m b mid s0 r0)(h1:cE D a m)(h2:cE D m b)(h:Found D p s0 r0 s r)(hs:s0<=s)(hr:r<=r0)(hc:s<=c)(hc2:c < r):
  (¬lt (D (p - c)) (D c)->Found D p s0 r0 (c+1) r)/\(lt (D (p - c)) (D c)->Found D p s0 r0 s c):=by subst hp;exact Found.go he h1 h2 h hs hr hc hc2
variable{f:Nat}
theorem Dg{s p:Nat}(hp:p=mid+m - 1)(hf:f=mid+m - s)(he:yI a m b mid s0 r0)(h1:cE D a m)(h2:cE D m b)(h:Found D p s0 r0 s s)(hs:s0<=s)(hr:s<=r0):
  cE (ba D s m f) a s/\cE (ba D s m f) s mid/\cE (ba D s m f) mid f/\cE (ba D s m f) f b/\
  ∀x y,a<=x->x < mid->mid<=y->y < b->le (ba D s m f x) (ba D s m f y):=by subst hp hf;exact VR he h1 h2 h hs hr
theorem zcD.Kaw(h:p:=by
 go_loopw [20,21] (λ sv rv wr=>∃i j:Nat,s0<=i/\i<=s/\s<=j/\j<=r0/\sv=af i/\rv=af j/\SS w0 g n wr D) (λ sv rv _=>(intOf rv).toNat - (intOf sv).toNat);case atStart=>exact ZcB
 case round=>exact ZaW):p:=h
theorem zaS.Kac(h:p:=by
 have zs:(mid:Int)+(Kx:Int) - (b:Int)=(s0:Int):=by omega
 open zcD in exact Zbc):p:=h
theorem VS (w0:World)(g n cap a Kx b mid p s f s0 r0:Nat)(D:Nat->aP ds gp)(w:World)(h:SS w0 g n w D)(hn:n<=1000)(N6:a+1 < Kx)(N7:Kx+1 < b)(hb:b<=n)(fY:mid=(a+b)/ 2)(hp:p=mid+Kx - 1)(hf:f=mid+Kx - s)(tS:s0=mid+Kx - b)(mC:r0=mid)(Nl:mid < Kx)
  (hs0:s0<=s) (yr:s<=r0) (hF:Found D p s0 r0 s s) (q1:cE (ba D s Kx f) a s) (q2:cE (ba D s Kx f) s mid) (q3:cE (ba D s Kx f) mid f) (q4:cE (ba D s Kx f) f b) (q5:∀x y,a<=x->x < mid->mid<=y->y < b->le (ba D s Kx f x) (ba D s Kx f y)) (k0:s < Kx) (k1:Kx < f) (k2:a < s) (k3:s < mid) (k4:mid < f) (k5:f < b)
  (ih:∀a' m' b' (E:Nat->aP ds gp) W,a' < m'->m' < b'->b'<=n->b' - a' < b - a->SS w0 g n W E->cE E a' m'->cE E m' b'->ar 106 #[aH g n cap,af (a':Nat),af (m':Nat),af (b':Nat),.func (.func 39) #[aw gp] #[]] W (bu w0 g n a' b' E)):
  ar 106 #[aH g n cap,af a,af Kx,af b,.func (.func 39) #[aw gp] #[]] w (bu w0 g n a b D):=by
 open zaS in exact Zar
theorem zcE.Kaw(h:p:=by
 go_loopw [20,21] (λ sv rv wr=>∃i j:Nat,s0<=i/\i<=s/\s<=j/\j<=r0/\sv=af i/\rv=af j/\SS w0 g n wr D) (λ sv rv _=>(intOf rv).toNat - (intOf sv).toNat);case atStart=>exact ZcB
 case round=>exact ZaF):p:=h
theorem zaT.Kac(h:p:=by
 have zs:(mid:Int)+(Kx:Int) - (b:Int)=(s0:Int):=by omega
 open zcE in exact Zbc):p:=h
theorem VT (w0:World)(g n cap a Kx b mid p s f s0 r0:Nat)(D:Nat->aP ds gp)(w:World)(h:SS w0 g n w D)(hn:n<=1000)(N6:a+1 < Kx)(N7:Kx+1 < b)(hb:b<=n)(fY:mid=(a+b)/ 2)(hp:p=mid+Kx - 1)(hf:f=mid+Kx - s)(tS:s0=mid+Kx - b)(mC:r0=mid)(Nl:mid < Kx)
  (hs0:s0<=s) (yr:s<=r0) (hF:Found D p s0 r0 s s) (q1:cE (ba D s Kx f) a s) (q2:cE (ba D s Kx f) s mid) (q3:cE (ba D s Kx f) mid f) (q4:cE (ba D s Kx f) f b) (q5:∀x y,a<=x->x < mid->mid<=y->y < b->le (ba D s Kx f x) (ba D s Kx f y)) (k0:s < Kx) (k1:Kx < f) (k2:a < s) (k3:s < mid) (k4:mid < f) (k5:¬(f < b))
  (ih:∀a' m' b' (E:Nat->aP ds gp) W,a' < m'->m' < b'->b'<=n->b' - a' < b - a->SS w0 g n W E->cE E a' m'->cE E m' b'->ar 106 #[aH g n cap,af (a':Nat),af (m':Nat),af (b':Nat),.func (.func 39) #[aw gp] #[]] W (bu w0 g n a' b' E)):
  ar 106 #[aH g n cap,af a,af Kx,af b,.func (.func 39) #[aw gp] #[]] w (bu w0 g n a b D):=by
 open zaT in exact Zar
theorem zcF.Kaw(h:p:=by
 go_loopw [20,21] (λ sv rv wr=>∃i j:Nat,s0<=i/\i<=s/\s<=j/\j<=r0/\sv=af i/\rv=af j/\SS w0 g n wr D) (λ sv rv _=>(intOf rv).toNat - (intOf sv).toNat);case atStart=>exact ZcB
 case round=>exact ZaN):p:=h
theorem zaU.Kac(h:p:=by
 have zs:(mid:Int)+(Kx:Int) - (b:Int)=(s0:Int):=by omega
 open zcF in exact Zbc):p:=h
theorem VU (w0:World)(g n cap a Kx b mid p s f s0 r0:Nat)(D:Nat->aP ds gp)(w:World)(h:SS w0 g n w D)(hn:n<=1000)(N6:a+1 < Kx)(N7:Kx+1 < b)(hb:b<=n)(fY:mid=(a+b)/ 2)(hp:p=mid+Kx - 1)(hf:f=mid+Kx - s)(tS:s0=mid+Kx - b)(mC:r0=mid)(Nl:mid < Kx)
  (hs0:s0<=s) (yr:s<=r0) (hF:Found D p s0 r0 s s) (q1:cE (ba D s Kx f) a s) (q2:cE (ba D s Kx f) s mid) (q3:cE (ba D s Kx f) mid f) (q4:cE (ba D s Kx f) f b) (q5:∀x y,a<=x->x < mid->mid<=y->y < b->le (ba D s Kx f x) (ba D s Kx f y)) (k0:s < Kx) (k1:Kx < f) (k2:¬(a < s)) (k3:s < mid) (k4:mid < f) (k5:f < b)
  (ih:∀a' m' b' (E:Nat->aP ds gp) W,a' < m'->m' < b'->b'<=n->b' - a' < b - a->SS w0 g n W E->cE E a' m'->cE E m' b'->ar 106 #[aH g n cap,af (a':Nat),af (m':Nat),af (b':Nat),.func (.func 39) #[aw gp] #[]] W (bu w0 g n a' b' E)):
  ar 106 #[aH g n cap,af a,af Kx,af b,.func (.func 39) #[aw gp] #[]] w (bu w0 g n a b D):=by
 open zaU in exact Zar
theorem zcG.Kaw(h:p:=by
 go_loopw [20,21] (λ sv rv wr=>∃i j:Nat,s0<=i/\i<=s/\s<=j/\j<=r0/\sv=af i/\rv=af j/\SS w0 g n wr D) (λ sv rv _=>(intOf rv).toNat - (intOf sv).toNat);case atStart=>exact ZcB
 case round=>exact Za4):p:=h
theorem zaV.Kac(h:p:=by
 have zs:(mid:Int)+(Kx:Int) - (b:Int)=(s0:Int):=by omega
 open zcG in exact Zbc):p:=h
theorem VV (w0:World)(g n cap a Kx b mid p s f s0 r0:Nat)(D:Nat->aP ds gp)(w:World)(h:SS w0 g n w D)(hn:n<=1000)(N6:a+1 < Kx)(N7:Kx+1 < b)(hb:b<=n)(fY:mid=(a+b)/ 2)(hp:p=mid+Kx - 1)(hf:f=mid+Kx - s)(tS:s0=mid+Kx - b)(mC:r0=mid)(Nl:mid < Kx)
  (hs0:s0<=s) (yr:s<=r0) (hF:Found D p s0 r0 s s) (q1:cE (ba D s Kx f) a s) (q2:cE (ba D s Kx f) s mid) (q3:cE (ba D s Kx f) mid f) (q4:cE (ba D s Kx f) f b) (q5:∀x y,a<=x->x < mid->mid<=y->y < b->le (ba D s Kx f x) (ba D s Kx f y)) (k0:s < Kx) (k1:Kx < f) (k2:¬(a < s)) (k3:s < mid) (k4:mid < f) (k5:¬(f < b))
  (ih:∀a' m' b' (E:Nat->aP ds gp) W,a' < m'->m' < b'->b'<=n->b' - a' < b - a->SS w0 g n W E->cE E a' m'->cE E m' b'->ar 106 #[aH g n cap,af (a':Nat),af (m':Nat),af (b':Nat),.func (.func 39) #[aw gp] #[]] W (bu w0 g n a' b' E)):
  ar 106 #[aH g n cap,af a,af Kx,af b,.func (.func 39) #[aw gp] #[]] w (bu w0 g n a b D):=by
 open zaV in exact Zar
theorem zcH.Kaw(h:p:=by
 go_loopw [20,21] (λ sv rv wr=>∃i j:Nat,s0<=i/\i<=s/\s<=j/\j<=r0/\sv=af i/\rv=af j/\SS w0 g n wr D) (λ sv rv _=>(intOf rv).toNat - (intOf sv).toNat);case atStart=>exact ZbX
 case round=>exact ZaW):p:=h
theorem zaW.Kac(h:p:=by
 have zs:(0:Int)=0:=by omega
 open zcH in exact Zbc):p:=h
theorem VW (w0:World)(g n cap a Kx b mid p s f s0 r0:Nat)(D:Nat->aP ds gp)(w:World)(h:SS w0 g n w D)(hn:n<=1000)(N6:a+1 < Kx)(N7:Kx+1 < b)(hb:b<=n)(fY:mid=(a+b)/ 2)(hp:p=mid+Kx - 1)(hf:f=mid+Kx - s)(tS:s0=a)(mC:r0=Kx)(Nl:¬(mid < Kx))
  (hs0:s0<=s) (yr:s<=r0) (hF:Found D p s0 r0 s s) (q1:cE (ba D s Kx f) a s) (q2:cE (ba D s Kx f) s mid) (q3:cE (ba D s Kx f) mid f) (q4:cE (ba D s Kx f) f b) (q5:∀x y,a<=x->x < mid->mid<=y->y < b->le (ba D s Kx f x) (ba D s Kx f y)) (k0:s < Kx) (k1:Kx < f) (k2:a < s) (k3:s < mid) (k4:mid < f) (k5:f < b)
  (ih:∀a' m' b' (E:Nat->aP ds gp) W,a' < m'->m' < b'->b'<=n->b' - a' < b - a->SS w0 g n W E->cE E a' m'->cE E m' b'->ar 106 #[aH g n cap,af (a':Nat),af (m':Nat),af (b':Nat),.func (.func 39) #[aw gp] #[]] W (bu w0 g n a' b' E)):
  ar 106 #[aH g n cap,af a,af Kx,af b,.func (.func 39) #[aw gp] #[]] w (bu w0 g n a b D):=by
 open zaW in exact Zar
theorem zcI.Kaw(h:p:=by
 go_loopw [20,21] (λ sv rv wr=>∃i j:Nat,s0<=i/\i<=s/\s<=j/\j<=r0/\sv=af i/\rv=af j/\SS w0 g n wr D) (λ sv rv _=>(intOf rv).toNat - (intOf sv).toNat);case atStart=>exact ZbX
 case round=>exact ZaF):p:=h
theorem zaX.Kac(h:p:=by
 have zs:(0:Int)=0:=by omega
 open zcI in exact Zbc):p:=h
theorem VX (w0:World)(g n cap a Kx b mid p s f s0 r0:Nat)(D:Nat->aP ds gp)(w:World)(h:SS w0 g n w D)(hn:n<=1000)(N6:a+1 < Kx)(N7:Kx+1 < b)(hb:b<=n)(fY:mid=(a+b)/ 2)(hp:p=mid+Kx - 1)(hf:f=mid+Kx - s)(tS:s0=a)(mC:r0=Kx)(Nl:¬(mid < Kx))
  (hs0:s0<=s) (yr:s<=r0) (hF:Found D p s0 r0 s s) (q1:cE (ba D s Kx f) a s) (q2:cE (ba D s Kx f) s mid) (q3:cE (ba D s Kx f) mid f) (q4:cE (ba D s Kx f) f b) (q5:∀x y,a<=x->x < mid->mid<=y->y < b->le (ba D s Kx f x) (ba D s Kx f y)) (k0:s < Kx) (k1:Kx < f) (k2:a < s) (k3:s < mid) (k4:mid < f) (k5:¬(f < b))
  (ih:∀a' m' b' (E:Nat->aP ds gp) W,a' < m'->m' < b'->b'<=n->b' - a' < b - a->SS w0 g n W E->cE E a' m'->cE E m' b'->ar 106 #[aH g n cap,af (a':Nat),af (m':Nat),af (b':Nat),.func (.func 39) #[aw gp] #[]] W (bu w0 g n a' b' E)):
  ar 106 #[aH g n cap,af a,af Kx,af b,.func (.func 39) #[aw gp] #[]] w (bu w0 g n a b D):=by
 open zaX in exact Zar
theorem zcJ.Kaw(h:p:=by
 go_loopw [20,21] (λ sv rv wr=>∃i j:Nat,s0<=i/\i<=s/\s<=j/\j<=r0/\sv=af i/\rv=af j/\SS w0 g n wr D) (λ sv rv _=>(intOf rv).toNat - (intOf sv).toNat);case atStart=>exact ZbX
 case round=>exact ZaN):p:=h
theorem zaY.Kac(h:p:=by
 have zs:(0:Int)=0:=by omega
 open zcJ in exact Zbc):p:=h
theorem VY (w0:World)(g n cap a Kx b mid p s f s0 r0:Nat)(D:Nat->aP ds gp)(w:World)(h:SS w0 g n w D)(hn:n<=1000)(N6:a+1 < Kx)(N7:Kx+1 < b)(hb:b<=n)(fY:mid=(a+b)/ 2)(hp:p=mid+Kx - 1)(hf:f=mid+Kx - s)(tS:s0=a)(mC:r0=Kx)(Nl:¬(mid < Kx))
  (hs0:s0<=s) (yr:s<=r0) (hF:Found D p s0 r0 s s) (q1:cE (ba D s Kx f) a s) (q2:cE (ba D s Kx f) s mid) (q3:cE (ba D s Kx f) mid f) (q4:cE (ba D s Kx f) f b) (q5:∀x y,a<=x->x < mid->mid<=y->y < b->le (ba D s Kx f x) (ba D s Kx f y)) (k0:s < Kx) (k1:Kx < f) (k2:¬(a < s)) (k3:s < mid) (k4:mid < f) (k5:f < b)
  (ih:∀a' m' b' (E:Nat->aP ds gp) W,a' < m'->m' < b'->b'<=n->b' - a' < b - a->SS w0 g n W E->cE E a' m'->cE E m' b'->ar 106 #[aH g n cap,af (a':Nat),af (m':Nat),af (b':Nat),.func (.func 39) #[aw gp] #[]] W (bu w0 g n a' b' E)):
  ar 106 #[aH g n cap,af a,af Kx,af b,.func (.func 39) #[aw gp] #[]] w (bu w0 g n a b D):=by
 open zaY in exact Zar
theorem zcK.Kaw(h:p:=by
 go_loopw [20,21] (λ sv rv wr=>∃i j:Nat,s0<=i/\i<=s/\s<=j/\j<=r0/\sv=af i/\rv=af j/\SS w0 g n wr D) (λ sv rv _=>(intOf rv).toNat - (intOf sv).toNat);case atStart=>exact ZbX
 case round=>exact Za4):p:=h
theorem zaZ.Kac(h:p:=by
 have zs:(0:Int)=0:=by omega
 open zcK in exact Zbc):p:=h
theorem VZ (w0:World)(g n cap a Kx b mid p s f s0 r0:Nat)(D:Nat->aP ds gp)(w:World)(h:SS w0 g n w D)(hn:n<=1000)(N6:a+1 < Kx)(N7:Kx+1 < b)(hb:b<=n)(fY:mid=(a+b)/ 2)(hp:p=mid+Kx - 1)(hf:f=mid+Kx - s)(tS:s0=a)(mC:r0=Kx)(Nl:¬(mid < Kx))
  (hs0:s0<=s) (yr:s<=r0) (hF:Found D p s0 r0 s s) (q1:cE (ba D s Kx f) a s) (q2:cE (ba D s Kx f) s mid) (q3:cE (ba D s Kx f) mid f) (q4:cE (ba D s Kx f) f b) (q5:∀x y,a<=x->x < mid->mid<=y->y < b->le (ba D s Kx f x) (ba D s Kx f y)) (k0:s < Kx) (k1:Kx < f) (k2:¬(a < s)) (k3:s < mid) (k4:mid < f) (k5:¬(f < b))
  (ih:∀a' m' b' (E:Nat->aP ds gp) W,a' < m'->m' < b'->b'<=n->b' - a' < b - a->SS w0 g n W E->cE E a' m'->cE E m' b'->ar 106 #[aH g n cap,af (a':Nat),af (m':Nat),af (b':Nat),.func (.func 39) #[aw gp] #[]] W (bu w0 g n a' b' E)):
  ar 106 #[aH g n cap,af a,af Kx,af b,.func (.func 39) #[aw gp] #[]] w (bu w0 g n a b D):=by
 open zaZ in exact Zar
theorem ziA.Kcs(h:p:=by clear e1 H2;exact ZbZ):p:=h
theorem zhu.KbZ(h:p:=by have u1_:decide (Kx < f)=false:=decide_eq_false k1;have u2_:decide (a < s)=true:=decide_eq_true k2;have u3_:decide (s < mid)=false:=decide_eq_false k3;have u4_:decide (mid < f)=true:=decide_eq_true k4;have u5_:decide (f < b)=true:=decide_eq_true k5;open ziA in exact ZhD):p:=h
theorem zcL.Kaw(h:p:=by
 go_loopw [20,21] (λ sv rv wr=>∃i j:Nat,s0<=i/\i<=s/\s<=j/\j<=r0/\sv=af i/\rv=af j/\SS w0 g n wr D) (λ sv rv _=>(intOf rv).toNat - (intOf sv).toNat);case atStart=>exact ZcB
 case round=>
  clear HS;obtain⟨i,j,py,hi,hj,Ez,rfl,rfl,hs⟩:=hrel;have H2:=aa hs;clear hs;by_cases hlt:i < j
  ·exact ZZ
  ·open zhu in exact Zfs):p:=h
theorem za0.Kac(h:p:=by
 have zs:(mid:Int)+(Kx:Int) - (b:Int)=(s0:Int):=by omega
 open zcL in exact Zbc):p:=h
theorem adj (w0:World)(g n cap a Kx b mid p s f s0 r0:Nat)(D:Nat->aP ds gp)(w:World)(h:SS w0 g n w D)(hn:n<=1000)(N6:a+1 < Kx)(N7:Kx+1 < b)(hb:b<=n)(fY:mid=(a+b)/ 2)(hp:p=mid+Kx - 1)(hf:f=mid+Kx - s)(tS:s0=mid+Kx - b)(mC:r0=mid)(Nl:mid < Kx)
  (hs0:s0<=s) (yr:s<=r0) (hF:Found D p s0 r0 s s) (q1:cE (ba D s Kx f) a s) (q2:cE (ba D s Kx f) s mid) (q3:cE (ba D s Kx f) mid f) (q4:cE (ba D s Kx f) f b) (q5:∀x y,a<=x->x < mid->mid<=y->y < b->le (ba D s Kx f x) (ba D s Kx f y)) (k0:s < Kx) (k1:¬(Kx < f)) (k2:a < s) (k3:¬(s < mid)) (k4:mid < f) (k5:f < b)
  (ih:∀a' m' b' (E:Nat->aP ds gp) W,a' < m'->m' < b'->b'<=n->b' - a' < b - a->SS w0 g n W E->cE E a' m'->cE E m' b'->ar 106 #[aH g n cap,af (a':Nat),af (m':Nat),af (b':Nat),.func (.func 39) #[aw gp] #[]] W (bu w0 g n a' b' E)):
  ar 106 #[aH g n cap,af a,af Kx,af b,.func (.func 39) #[aw gp] #[]] w (bu w0 g n a b D):=by
 open za0 in exact Zar
theorem zib.Kch(h:p:=by
 have u3_:decide (s < mid)=true:=decide_eq_true k3;have Lw:decide (mid < f)=false:=decide_eq_false KK;have e1:ba D s Kx f=D:=by exact ZdQ
 have H3:=aa (show SS w0 g n _ (ba D s Kx f) by rw[e1];exact H2.ae);have wB:=aa (show Sw s f D (ba D s Kx f) by rw[e1];exact .refl);clear e1 H2;generalize ba D s Kx f=R at*;go_wp2_with fail;refine(IH.ae a s mid R _ WC WC WC WC H3.ae Q1.ae HFN.ae).mono ?_;rintro e_ w6 ⟨rfl,E,hs,hw,ho⟩;have H4:=aa hs;have HW:=aa hw;have HO:=aa ho;clear hs hw ho H3;go_wp2_with fail;have ED:=aa (Q3.ae.congr (E:=E) λ x h1 h2=>HW.ae.ae x (.inr h1));have EE:=aa (Q4.ae.congr (E:=E) λ x h1 h2=>HW.ae.ae x (.inr WC));have H6:=aa (show cE E mid b from by
  rcases(show f=mid\/f=b by omega)with e | e
  ·have:=EE.ae;rwa [e] at this
  ·have:=ED.ae;rwa [e] at this)
 exact ZbH):p:=h
theorem zcM.Kaw(h:p:=by
 go_loopw [20,21] (λ sv rv wr=>∃i j:Nat,s0<=i/\i<=s/\s<=j/\j<=r0/\sv=af i/\rv=af j/\SS w0 g n wr D) (λ sv rv _=>(intOf rv).toNat - (intOf sv).toNat);case atStart=>exact ZbX
 case round=>
  clear HS;obtain⟨i,j,py,hi,hj,Ez,rfl,rfl,hs⟩:=hrel;have H2:=aa hs;clear hs;by_cases hlt:i < j
  ·exact ZZ
  ·open zib in exact Zgu):p:=h
theorem za1.Kac(h:p:=by
 have zs:(0:Int)=0:=by omega
 open zcM in exact Zbc):p:=h
theorem O1 (w0:World)(g n cap a Kx b mid p s f s0 r0:Nat)(D:Nat->aP ds gp)(w:World)(h:SS w0 g n w D)(hn:n<=1000)(N6:a+1 < Kx)(N7:Kx+1 < b)(hb:b<=n)(fY:mid=(a+b)/ 2)(hp:p=mid+Kx - 1)(hf:f=mid+Kx - s)(tS:s0=a)(mC:r0=Kx)(Nl:¬(mid < Kx))
  (hs0:s0<=s) (yr:s<=r0) (hF:Found D p s0 r0 s s) (q1:cE (ba D s Kx f) a s) (q2:cE (ba D s Kx f) s mid) (q3:cE (ba D s Kx f) mid f) (q4:cE (ba D s Kx f) f b) (q5:∀x y,a<=x->x < mid->mid<=y->y < b->le (ba D s Kx f x) (ba D s Kx f y)) (k0:¬(s < Kx)) (k2:a < s) (k3:s < mid) (KK:¬(mid < f))
  (ih:∀a' m' b' (E:Nat->aP ds gp) W,a' < m'->m' < b'->b'<=n->b' - a' < b - a->SS w0 g n W E->cE E a' m'->cE E m' b'->ar 106 #[aH g n cap,af (a':Nat),af (m':Nat),af (b':Nat),.func (.func 39) #[aw gp] #[]] W (bu w0 g n a' b' E)):
  ar 106 #[aH g n cap,af a,af Kx,af b,.func (.func 39) #[aw gp] #[]] w (bu w0 g n a b D):=by
 open za1 in exact Zar
theorem ziB.Kcs(h:p:=by clear e1 H2;exact Zal):p:=h
theorem zic.Kch(h:p:=by have u3_:decide (s < mid)=false:=decide_eq_false k3;have Lw:decide (mid < f)=false:=decide_eq_false KK;open ziB in exact ZhD):p:=h
theorem zcN.Kaw(h:p:=by
 go_loopw [20,21] (λ sv rv wr=>∃i j:Nat,s0<=i/\i<=s/\s<=j/\j<=r0/\sv=af i/\rv=af j/\SS w0 g n wr D) (λ sv rv _=>(intOf rv).toNat - (intOf sv).toNat);case atStart=>exact ZbX
 case round=>
  clear HS;obtain⟨i,j,py,hi,hj,Ez,rfl,rfl,hs⟩:=hrel;have H2:=aa hs;clear hs;by_cases hlt:i < j
  ·exact ZZ
  ·open zic in exact Zgu):p:=h
theorem za2.Kac(h:p:=by
 have zs:(0:Int)=0:=by omega
 open zcN in exact Zbc):p:=h
theorem O5 (w0:World)(g n cap a Kx b mid p s f s0 r0:Nat)(D:Nat->aP ds gp)(w:World)(h:SS w0 g n w D)(hn:n<=1000)(N6:a+1 < Kx)(N7:Kx+1 < b)(hb:b<=n)(fY:mid=(a+b)/ 2)(hp:p=mid+Kx - 1)(hf:f=mid+Kx - s)(tS:s0=a)(mC:r0=Kx)(Nl:¬(mid < Kx))
  (hs0:s0<=s) (yr:s<=r0) (hF:Found D p s0 r0 s s) (q1:cE (ba D s Kx f) a s) (q2:cE (ba D s Kx f) s mid) (q3:cE (ba D s Kx f) mid f) (q4:cE (ba D s Kx f) f b) (q5:∀x y,a<=x->x < mid->mid<=y->y < b->le (ba D s Kx f x) (ba D s Kx f y)) (k0:¬(s < Kx)) (k2:a < s) (k3:¬(s < mid)) (KK:¬(mid < f))
  (ih:∀a' m' b' (E:Nat->aP ds gp) W,a' < m'->m' < b'->b'<=n->b' - a' < b - a->SS w0 g n W E->cE E a' m'->cE E m' b'->ar 106 #[aH g n cap,af (a':Nat),af (m':Nat),af (b':Nat),.func (.func 39) #[aw gp] #[]] W (bu w0 g n a' b' E)):
  ar 106 #[aH g n cap,af a,af Kx,af b,.func (.func 39) #[aw gp] #[]] w (bu w0 g n a b D):=by
 open za2 in exact Zar
theorem Dh{p:Nat}(hp:p=mid+m - 1)(he:yI a m b mid s0 r0)(h1:cE D a m)(h2:cE D m b)(hsr:s0<=r0):∃s,s0<=s/\s<=r0/\Found D p s0 r0 s s:=by
 have key:∀d s,r0 - s<=d->s0<=s->s<=r0->Found D p s0 r0 s r0->∃s,s0<=s/\s<=r0/\Found D p s0 r0 s s:=by
  intro d
  induction d with
  | zero=>intro s h3 h4 h5 h6;exact⟨s,h4,h5,by rw[show r0=s by omega] at h6 ⊢;exact h6⟩
  | succ d ih=>
    intro s h3 h4 h5 h6;by_cases hs:s=r0
    ·exact⟨s,h4,h5,by rw[<- hs] at h6 ⊢;exact h6⟩
    ·have k:=Found.goP hp he h1 h2 h6 h4 (Nat.le_refl _) (Nat.le_refl s) WC;by_cases hl:lt (D (p - s)) (D s)
     ·exact⟨s,h4,h5,k.2 hl⟩
     ·exact ih (s+1) WC WC WC (k.1 hl)
 exact key (r0 - s0) s0 (Nat.le_refl _) (Nat.le_refl _) hsr ⟨λ c h1 h2=>by omega,λ c h1 h2=>by omega⟩
theorem zit.Kcp(h:p:=by
 by_cases c3:m < f
 ·by_cases c4:a < s <;> by_cases c5:f < b
  ·exact VS w0 g n cap a m b mid p s f s0 r0 D w h hn WC WC hb fY hp hf hs0 yr hm hs1 hs2 hF e1 e2 e3 e4 e5 WC c3 c4 WC WC c5 ih'
  ·exact VT w0 g n cap a m b mid p s f s0 r0 D w h hn WC WC hb fY hp hf hs0 yr hm hs1 hs2 hF e1 e2 e3 e4 e5 WC c3 c4 WC WC c5 ih'
  ·exact VU w0 g n cap a m b mid p s f s0 r0 D w h hn WC WC hb fY hp hf hs0 yr hm hs1 hs2 hF e1 e2 e3 e4 e5 WC c3 c4 WC WC c5 ih'
  ·exact VV w0 g n cap a m b mid p s f s0 r0 D w h hn WC WC hb fY hp hf hs0 yr hm hs1 hs2 hF e1 e2 e3 e4 e5 WC c3 c4 WC WC c5 ih'
 ·exact adj w0 g n cap a m b mid p s f s0 r0 D w h hn WC WC hb fY hp hf hs0 yr hm hs1 hs2 hF e1 e2 e3 e4 e5 WC c3 WC WC WC WC ih'):p:=h
theorem ziu.Kcp(h:p:=by
 by_cases c3:s < m
 ·by_cases c4:a < s <;> by_cases c5:f < b
  ·exact VW w0 g n cap a m b mid p s f s0 r0 D w h hn WC WC hb fY hp hf hs0 yr hm hs1 hs2 hF e1 e2 e3 e4 e5 c3 WC c4 WC WC c5 ih'
  ·exact VX w0 g n cap a m b mid p s f s0 r0 D w h hn WC WC hb fY hp hf hs0 yr hm hs1 hs2 hF e1 e2 e3 e4 e5 c3 WC c4 WC WC c5 ih'
  ·exact VY w0 g n cap a m b mid p s f s0 r0 D w h hn WC WC hb fY hp hf hs0 yr hm hs1 hs2 hF e1 e2 e3 e4 e5 c3 WC c4 WC WC c5 ih'
  ·exact VZ w0 g n cap a m b mid p s f s0 r0 D w h hn WC WC hb fY hp hf hs0 yr hm hs1 hs2 hF e1 e2 e3 e4 e5 c3 WC c4 WC WC c5 ih'
 ·by_cases c4:s < mid
  ·exact O1 w0 g n cap a m b mid p s f s0 r0 D w h hn WC WC hb fY hp hf hs0 yr hm hs1 hs2 hF e1 e2 e3 e4 e5 c3 WC c4 WC ih'
  ·exact O5 w0 g n cap a m b mid p s f s0 r0 D w h hn WC WC hb fY hp hf hs0 yr hm hs1 hs2 hF e1 e2 e3 e4 e5 c3 WC c4 WC ih'):p:=h
theorem Tl (w0:World)(g n cap:Nat)(hn:n<=1000):∀(N a m b:Nat) (D:Nat->aP ds gp) (w:World),b - a<=N->a < m->m < b->b<=n->SS w0 g n w D->cE D a m->cE D m b->
  ar 106 #[aH g n cap,af a,af m,af b,.func (.func 39) #[aw gp] #[]] w (bu w0 g n a b D):=by
 intro N
 induction N with
 | zero=>intro a m b D w h0 h1 h2;omega
 | succ N ih=>
   intro a m b D w h0 h1 h2 hb h q1 q2;by_cases c1:m=a+1
   ·subst c1;have:=adh w0 g n cap a b D w h hn h2 hb q2;exact Ze5
   by_cases c2:b=m+1
   ·subst c2;have:=adi w0 g n cap a m D w h hn WC hb q1;exact Ze5
   have ih':∀a' m' b' (E:Nat->aP ds gp) W,a' < m'->m' < b'->b'<=n->b' - a' < b - a->SS w0 g n W E->cE E a' m'->cE E m' b'->ar 106 #[aH g n cap,af (a':Nat),af (m':Nat),af (b':Nat),.func (.func 39) #[aw gp] #[]] W (bu w0 g n a' b' E):=
    λ a' m' b' E W k1 k2 k3 k4 k5 k6 k7=>ih a' m' b' E W WC k1 k2 k3 k5 k6 k7
   obtain⟨mid,fY⟩:∃q:Nat,q=(a+b)/ 2:=⟨_,rfl⟩;obtain⟨p,hp⟩:∃q:Nat,q=mid+m - 1:=⟨_,rfl⟩;by_cases hm:mid < m
   ·obtain⟨s0,hs0⟩:∃q:Nat,q=mid+m - b:=⟨_,rfl⟩;obtain⟨r0,yr⟩:∃q:Nat,q=mid:=⟨_,rfl⟩;have he:yI a m b mid s0 r0:=⟨⟨h1,h2⟩,fY,.inl ⟨by omega,hs0,yr⟩⟩;open zit in exact Zht
   ·obtain⟨s0,hs0⟩:∃q:Nat,q=a:=⟨_,rfl⟩;obtain⟨r0,yr⟩:∃q:Nat,q=m:=⟨_,rfl⟩;have he:yI a m b mid s0 r0:=⟨⟨h1,h2⟩,fY,.inr ⟨by omega,hs0,yr⟩⟩;open ziu in exact Zht
def QH (E:Nat->aP ds gp)(s n:Nat):Prop:=∀a,s ∣ a->cE E a (min (a+s) n)
variable{d:Nat}
theorem Di{x y:Nat}(h1:d ∣ x)(h2:d ∣ y)(h:x < y):x+d<=y:=by obtain⟨u,rfl⟩:=h1;obtain⟨v,rfl⟩:=h2;have:u < v:=Nat.lt_of_mul_lt_mul_left h;have h3:=Nat.mul_le_mul_left d (show u+1<=v by omega);rw[Nat.mul_add,Nat.mul_one] at h3;exact h3
def Low (E:Nat->aP ds gp)(s a:Nat):Prop:=∀x,s ∣ x->x+s<=a->cE E x (x+s)
def O6 (E:Nat->aP ds gp)(s a n:Nat):Prop:=∀x,s ∣ x->a<=x->cE E x (min (x+s) n)
theorem Low.step{s:Nat}(h:Low E s a)(hd:s ∣ a)(hw:Sw a (a+s) E F)(ho:cE F a (a+s)):Low F s (a+s):=by
 intro x hx hle;rcases Nat.lt_or_ge x a with h1 | h1
 ·have:=Di hx hd h1;exact(h x hx this).congr λ i h2 h3=>hw.ae i (.inl WC)
 ·rw[show x=a by omega];exact ho
theorem O6.step{s:Nat}(h:O6 E s a n)(hab:a<=b)(hw:Sw a b E F):O6 F s b n:=λ x hx hle=>(h x hx WC).congr λ i h2 h3=>hw.ae i (.inr WC)
theorem uP{s:Nat}(h:Low E s a)(hd:s ∣ a)(han:a<=n)(hn:n < a+s)(hw:Sw a n E F)(ho:cE F a n):QH F s n:=by
 intro x hx;rcases Nat.lt_trichotomy x a with h1 | h1 | h1
 ·have h2:=Di hx hd h1;exact((h x hx h2).congr λ i h3 h4=>hw.ae i (.inl WC)).mono (Nat.le_refl _) WC
 ·subst h1;exact ho.mono (Nat.le_refl _) WC
 ·have h2:=Di hd hx h1;exact .none WC
theorem zil.Kcm(h:p:=by
 have HO:=aa (oz.ae.step Ai.ae q5 ho);have HH3:=aa (E1.ae.step WC q5);have PA:=aa (Nat.dvd_add Ai.ae (Nat.dvd_refl (2*j)));clear q4 q5 ho Ai O7 oz E1 Q5 Q4 HC;go_wp2_with fail;go_roundw;case rel=>exact⟨a+2*j,G,PA.ae,by omega,by go_num,by go_num,H2.ae,HW.ae,HO.ae,HH3.ae⟩
 case measure=>exact Za1):p:=h
theorem zim.Kcm(h:p:=by
 have HO:=aa (uP oz.ae Ai.ae han WC q5 ho);clear q4 q5 ho Ai O7 oz E1 Q5 Q4 HC;go_wp2_with fail;go_roundw;case rel=>exact⟨2*j,G,by omega,by omega,by go_num,H2.ae,HW.ae,HO.ae⟩
 case measure=>exact Za1):p:=h
theorem QI (w0:World)(g n cap:Nat)(D:Nat->aP ds gp)(w:World)(h:SS w0 g n w D)(hn:n<=1000):
  ar 70 #[aH g n cap,af n,.func (.func 39) #[aw gp] #[]] w (bu w0 g n 0 n D):=by
 have HS:=aa h;clear h;go_enter Tryz.func70,Tryz.ntmps70;go_wp2_with fail;go_loopw [7,8] (λ av bv wr=>∃(a:Nat) (E:Nat->aP ds gp),20 ∣ a/\a<=n/\av=af a/\bv=af (a+20)/\SS w0 g n wr E/\Sw 0 n D E/\Low E 20 a) (λ av _ _=>n - (intOf av).toNat);case atStart=>exact⟨0,D,⟨0,rfl⟩,by omega,rfl,rfl,HS.ae,.refl,λ x h1 h2=>by omega⟩
 case round=>
  clear HS;obtain⟨a,E,B3,han,rfl,rfl,q4,q5,Av⟩:=hrel;have Q4:=aa q4;have Q5:=aa q5;have oz:=aa Av;have Ai:=aa B3;clear q4 q5 Av B3;by_cases hlt:a+20<=n
  ·go_wp2_with fail;refine(tR w0 g n cap a (a+20) E _ Q4.ae hn WC WC).mono ?_;rintro e_ w1 ⟨rfl,F,q4,q5,ho⟩;have H2:=aa q4;have HW:=aa (Q5.ae.trans (q5.mono WC WC));have HO:=aa (oz.ae.step Ai.ae q5 ho);have PA:=aa (Nat.dvd_add Ai.ae (Nat.dvd_refl 20));clear q4 q5 ho Ai oz Q5 Q4;go_wp2_with fail;go_roundw;case rel=>exact⟨a+20,F,PA.ae,by omega,by go_num,by go_num,H2.ae,HW.ae,HO.ae⟩
   case measure=>exact Za1
  ·go_wp2_with fail;refine(tR w0 g n cap a n E _ Q4.ae hn WC WC).mono ?_;rintro e_ w1 ⟨rfl,F,q4,q5,ho⟩;have H2:=aa q4;have HW:=aa (Q5.ae.trans (q5.mono WC WC));have HO:=aa (uP oz.ae Ai.ae han WC q5 ho);clear q4 q5 ho Ai oz Q5 Q4;go_wp2_with fail;go_loopw [6] (λ sv wr=>∃(j:Nat) (E:Nat->aP ds gp),0 < j/\j<=2000/\sv=af j/\SS w0 g n wr E/\Sw 0 n D E/\QH E j n) (λ sv _=>n - (intOf sv).toNat);case atStart=>exact⟨20,F,by omega,by omega,rfl,H2.ae,HW.ae,HO.ae⟩
   case round=>
    clear H2 HW HO;obtain⟨j,E,hj0,hj,rfl,q4,q5,Av⟩:=hrel;have Q4:=aa q4;have Q5:=aa q5;have oz:=aa Av;clear q4 q5 Av;by_cases hlt:j < n
    ·go_wp2_with fail;go_loopw [7,8] (λ av bv wr2=>∃(a:Nat) (E:Nat->aP ds gp),2*j ∣ a/\a<=n/\av=af a/\bv=af (a+2*j:Nat)/\SS w0 g n wr2 E/\Sw 0 n D E/\Low E (2*j) a/\O6 E j a n) (λ av _ _=>n - (intOf av).toNat);case atStart=>exact⟨0,E,⟨0,rfl⟩,by omega,rfl,by go_num,Q4.ae,Q5.ae,λ x h1 h2=>by omega,λ x h1 h2=>oz.ae x h1⟩
     case round=>
      clear Q4 Q5 oz;obtain⟨a,E,B3,han,rfl,rfl,q4,q5,Av,Tp⟩:=hrel;have Q4:=aa q4;have Q5:=aa q5;have oz:=aa Av;have E1:=aa Tp;have Ai:=aa B3;have O7:=aa (show j ∣ a from Nat.dvd_trans ⟨2,by omega⟩ B3);clear q4 q5 Av Tp B3;by_cases tu:a+2*j<=n
      ·have hC:=Tl w0 g n cap hn (2*j) a (a+j) (a+2*j) E wr WC WC WC tu Q4.ae ((E1.ae a O7.ae (Nat.le_refl _)).mono (Nat.le_refl _) WC) ((E1.ae (a+j) (Nat.dvd_add O7.ae (Nat.dvd_refl j)) WC).mono (Nat.le_refl _) WC);rw[show((a+j:Nat):Int)=(a:Int)+(j:Int) by omega,show((a+2*j:Nat):Int)=(a:Int)+2*(j:Int) by omega] at hC;open zil in exact Zg1
      ·by_cases Ue:a+j < n
       ·have hC:=Tl w0 g n cap hn (2*j) a (a+j) n E wr WC WC Ue (Nat.le_refl _) Q4.ae ((E1.ae a O7.ae (Nat.le_refl _)).mono (Nat.le_refl _) WC) ((E1.ae (a+j) (Nat.dvd_add O7.ae (Nat.dvd_refl j)) WC).mono (Nat.le_refl _) WC);rw[show((a+j:Nat):Int)=(a:Int)+(j:Int) by omega] at hC;open zim in exact Zg1
       ·have HO:=aa (uP oz.ae Ai.ae han WC .refl ((E1.ae a O7.ae (Nat.le_refl _)).mono (Nat.le_refl _) WC));clear oz E1 Ai O7;go_wp2_with fail;go_roundw;case rel=>exact⟨2*j,E,by omega,by omega,by go_num,Q4.ae,Q5.ae,HO.ae⟩
        case measure=>exact Za1
    ·have HE:=aa (show cE E 0 n from(oz.ae 0 ⟨0,rfl⟩).mono (Nat.le_refl _) WC);go_wp2_with fail;exact bodyPost_ret (v:=.tuple #[]) Tbn rfl ⟨rfl,E,Q4.ae,Q5.ae,HE.ae⟩
theorem Dj (w0:World)(g n cap:Nat)(D:Nat->aP ds gp)(w:World)(h:SS w0 g n w D)(hn:n<=1000):
  ar 38 #[aH g n cap,.func (.func 39) #[aw gp] #[]] w (bu w0 g n 0 n D):=by have HL:=QI w0 g n cap D w h hn;clear h;go_enter Tryz.func38,Tryz.ntmps38;go_wp2_with fail;refine HL.mono ?_;rintro e w1 ⟨rfl,b1⟩;go_wp2_with fail;exact bodyPost_ret (v:=.tuple #[]) Tbo rfl ⟨rfl,b1⟩
def wQ (w:World)(e:Ending)(w':World):Prop:=e=.returned (.tuple #[])/\w'=w
theorem Dk (A:Option Addr)(cap:Nat)(w:World):
  ar 105 #[.slice A 0 cap,af 0,af 0,.func (.func 39) #[aw gp] #[]] w (wQ w):=by
 go_enter Tryz.func105,Tryz.ntmps105;go_wp2_with fail;go_loopw [8] (λ iv wr=>iv=af 1/\wr=w) (λ _ _=>0);case atStart=>exact Zfy
 case round=>obtain⟨rfl,rfl⟩:=hrel;go_wp2_with fail;exact bodyPost_ret (v:=.tuple #[]) Tbi rfl ⟨rfl,rfl⟩
theorem ML (A:Option Addr)(cap:Nat)(w:World):
  ar 70 #[.slice A 0 cap,af 0,.func (.func 39) #[aw gp] #[]] w (wQ w):=by
 go_enter Tryz.func70,Tryz.ntmps70;go_wp2_with fail;go_loopw [7,8] (λ av bv wr=>av=af 0/\bv=af 20/\wr=w) (λ _ _ _=>0);case atStart=>exact⟨rfl,rfl,rfl⟩
 case round=>
  obtain⟨rfl,rfl,rfl⟩:=hrel;go_wp2_with fail;refine(Dk A cap _).mono ?_;rintro e_ w1 ⟨rfl,rfl⟩;go_wp2_with fail;go_loopw [6] (λ sv wr=>sv=af 20/\wr=w1) (λ _ _=>0);case atStart=>exact Zfy
  case round=>obtain⟨rfl,rfl⟩:=hrel;go_wp2_with fail;exact bodyPost_ret (v:=.tuple #[]) Tbn rfl ⟨rfl,rfl⟩
theorem Ae (A:Option Addr)(cap:Nat)(w:World):
  ar 38 #[.slice A 0 cap,.func (.func 39) #[aw gp] #[]] w (wQ w):=by go_enter Tryz.func38,Tryz.ntmps38;go_wp2_with fail;refine(ML A cap w).mono ?_;rintro e_ w1 ⟨rfl,rfl⟩;go_wp2_with fail;exact bodyPost_ret (v:=.tuple #[]) Tbo rfl ⟨rfl,rfl⟩
end Go.Proofs.YtndgjggokjickaaGreatDoor.L
namespace Go.Proofs.YtndgjggokjickaaGreatDoor
variable{p:Prop}
set_option maxHeartbeats 90000000
set_option maxRecDepth 100000
open Go.ChangeShapes Go.WideShapes Go.ChangeAt Go.RowKit List
set_option linter.unusedVariables false
set_option linter.unusedSimpArgs false
noncomputable def ey:Code:=Tryz.f11.body.getD .skip
def XG (f:Nat->Value):Array Value:= #[f 0,f 1,f 2,f 3,f 4,f 5,f 6,f 7,f 8,f 9,f 10,f 11,f 12,f 13,f 14,f 15,f 16,f 17,f 18,f 19,f 20,f 21,f 22,f 23,f 24,f 25,f 26,f 27,f 28,f 29,f 30,f 31,f 32,f 33,f 34,f 35,f 36,f 37,f 38,f 39,f 40,f 41,f 42,f 43,f 44,f 45,f 46,f 47,f 48,f 49,f 50,f 51,f 52,f 53,f 54,f 55,f 56,f 57,f 58,f 59,f 60,f 61,f 62,f 63,f 64,f 65,f 66,f 67,f 68,f 69,f 70,f 71,f 72,f 73,f 74,f 75,f 76,f 77,f 78,f 79,f 80,f 81,f 82,f 83,f 84,f 85,f 86,f 87,f 88,f 89,f 90,f 91,f 92,f 93,f 94,f 95,f 96,f 97,f 98,f 99,f 100,f 101,f 102,f 103,f 104,f 105,f 106,f 107,f 108,f 109,f 110,f 111,f 112,f 113,f 114,f 115,f 116,f 117,f 118,f 119,f 120,f 121,f 122,f 123,f 124,f 125,f 126,f 127,f 128,f 129,f 130,f 131,f 132,f 133,f 134,f 135,f 136,f 137,f 138,f 139,f 140,f 141,f 142,f 143,f 144,f 145,f 146,f 147,f 148,f 149,f 150,f 151,f 152,f 153,f 154,f 155,f 156,f 157,f 158,f 159,f 160,f 161,f 162,f 163,f 164,f 165,f 166,f 167,f 168,f 169,f 170,f 171,f 172,f 173,f 174,f 175,f 176,f 177,f 178,f 179,f 180,f 181,f 182]
theorem yt (T:Array Value)(h:T.size=183):∃f:Nat->Value,T=XG f:=by
 refine⟨λ i=>T.getD i undef,?_⟩;apply Array.ext
 ·rw[h];rfl
 ·intro i h1 h2
  have e:∀(f:Nat->Value) (i:Nat) (hi:i <(XG f).size),(XG f)[i]=f i:=by
   intro f i hi;have h3:(XG f).toList=(List.range 183).map f:=rfl;have h4:(XG f)[i]=(XG f).toList[i]' TaE:=by simp
   exact ZfR
  rw[e];simp[Array.getD,h1]
def aiC (w:World)(LA:Option Addr)(n:Nat)(D:Nat->aW×aW):Prop:=n=0\/∃g,LA=some ⟨g,0,none⟩/\g < w.heap.size/\∀i,i < n->w.cell? ⟨g,i*2,none⟩=some (.slice (D i).1.A (D i).1.l.length (D i).1.c)/\w.cell? ⟨g,i*2+1,none⟩=some (.slice (D i).2.A (D i).2.l.length (D i).2.c)
def rowsOf (D:Nat->aW×aW)(n:Nat):List aW:=(List.range n).map λ i=>(D i).1
theorem MM (D:Nat->aW×aW)(n:Nat):rowsOf D (n+1)=rowsOf D n++ [(D n).1]:=by unfold rowsOf;rw[range_succ,map_append];rfl
theorem Dl (D:Nat->aW×aW)(n:Nat):(rowsOf D n).length=n:=by simp[rowsOf]
theorem zha.KbR(h:p:=by
 obtain⟨OA,oc,Lk,_⟩:=KK.ae.reads;subst Lk;have HOX:=KK;have ave:=KK.ae.other Mg.ae Tab;clear KK;go_wp2_with fail;refine HH.ae _ _ (.slice OA (rowsOf D k).length oc) rfl rfl rfl (((Mg.ae.aT 0 _).aT 1 _).aT 2 _) ?_ (aC (aC (aC (aR hb) _ _) _ _) _ _);refine HOX.ae.keep λ Lw LE=>?_
 have hn:Lw≠g6:=λ e=>ave (by rw[LE];exact congrArg some e)
 rw[Below.heap_setCell _ ⟨g6,2,none⟩ _ Lw hn,Below.heap_setCell _ ⟨g6,1,none⟩ _ Lw hn,Below.heap_setCell _ ⟨g6,0,none⟩ _ Lw hn]):p:=h
theorem adk (gp g6 n lc:Nat)(LA:Option Addr)(D:Nat->aW×aW)(HA:Option Addr)(hn hc:Nat)(T:Array Value)(hT:T.size=183)(h6:T.getD 6 undef=aw g6)(h8:T.getD 8 undef=aw gp)(Wc:T.getD 13 undef=.slice LA n lc)(d:List Deferred)(w:World)(Q:Exit->Act->World->Prop)
  (ug:n<=1000000) (sF:gp < w.heap.size) (hch:w.cell? ⟨gp,12,none⟩=some (.slice HA hn hc)) (rL:aB w g6 33 #[az,az,af 0]) (hL:aiC w LA n D)
  (h:∀a W ov,a.defers=d->a.tmps.getD 6 undef=aw g6->a.tmps.getD 7 undef=af 0->aB W g6 33 #[.slice HA hn hc,ov,af n]->aI ck 38 1 W w.heap.size ov (rowsOf D n)->w.grownBy W (some g6)->Q .ret a W):
  (fy ey 14).wp Tryz.prog Q { tmps:=T,defers:=d } w:=by
 obtain⟨f,rfl⟩:=yt T hT;have h6:f 6=_:=h6;have h8:f 8=_:=h8;have Wc:f 13=_:=Wc;simp only[XG,h6,h8,Wc];clear h6 h8 Wc;clear h6 h8 Wc hT;have HH:=aa h;have xd:=aa rL;have HL:=aa hL;have b1:=ah w (.cells #[.slice HA hn hc,az,af n] 33);have cJ:=aB.new w 33 #[.slice HA hn hc,az,af n];have eL:=aa b1;have HX:=aa cJ;clear h rL hL b1 cJ;simp only[ey,fy,Tryz.f11,Option.getD_some];go_upto_region 33 with fail;clear hch sF;obtain⟨g,hg⟩:∃g,g=w.heap.size:=⟨_,rfl⟩;rw[<- hg] at HX ⊢;have wA:=aa hg;clear hg;generalize w.alloc _=W1 at*;go_wp2_with fail;go_loopw [170] (λ i wr=>∃(k:Nat) (ov:Value),k<=n/\i=af k/\aB wr g 33 #[.slice HA hn hc,ov,af n]/\aI ck 38 1 wr w.heap.size ov (rowsOf D k)/\aj w wr) (λ i _=>n - (intOf i).toNat);case atStart=>exact⟨0,_,Nat.zero_le _,rfl,HX.ae,aI.nil,eL.ae⟩
 case round=>
  clear eL HX;obtain⟨k,ov,hk,rfl,hR,hO,hb⟩:=hrel;have HO:=aa hR;have KK:=aa hO;clear hR hO;by_cases hlt:k < n
  ·obtain⟨lb,hA,xJ,cf⟩:∃Lw,LA=some ⟨Lw,0,none⟩/\Lw < w.heap.size/\∀i,i < n->w.cell? ⟨Lw,i*2,none⟩=some (.slice (D i).1.A (D i).1.l.length (D i).1.c)/\w.cell? ⟨Lw,i*2+1,none⟩=some (.slice (D i).2.A (D i).2.l.length (D i).2.c):=by
    rcases HL.ae with h | h
    ·omega
    ·exact h
   obtain⟨z0,z1⟩:=cf k hlt;have Ly:=(hb.cell (p:=⟨lb,k*2,none⟩) xJ).trans z0;have Kx:=(hb.cell (p:=⟨lb,k*2+1,none⟩) xJ).trans z1;subst hA;have HS:=aa (MM D k);have zh:=aa (Dl D k);generalize (D k).1=r at*;generalize (D k).2=s at*;generalize rowsOf D k=rs at*;clear xJ cf z0 z1;go_upto_region 36 with fail;have b1:=ah wr (.cells #[.slice r.A r.l.length r.c,.slice s.A s.l.length s.c] 91);have cJ:=aB.new wr 91 #[.slice r.A r.l.length r.c,.slice s.A s.l.length s.c];have cb:=cJ.cell 0;simp only[getElem?_toArray,getElem?_cons_zero] at cb;have VD:=aa (HO.ae.later b1);have xT:=aa (KK.ae.later b1);have hb1:=ai.then hb b1;have HK:=aa cJ;clear b1 HO KK hb cJ Ly Kx;generalize hw1:wr.alloc (.cells #[.slice r.A r.l.length r.c,.slice s.A s.l.length s.c] 91)=W2 at*;generalize wr.heap.size=gl at*;clear hw1;have y1:=VD.ae.cell 1;simp only[Uaa] at y1;have hB:=ah W2 (.cells #[.slice r.A r.l.length r.c] 38);have hG:=aB.new W2 38 #[.slice r.A r.l.length r.c];have Xr:=aa (VD.ae.later hB);have Lz:=aa (xT.ae.later hB);have hb2:=ai.then hb1 hB
   have HG:=aa hG;have hbase:=hb2.size;have kN:=zh.ae;clear hB hG VD xT;go_wp2_with (first
    |(at_builtin
      refine aU rfl (.tmp 175) (.tmp 178) 29 rfl _ 24 Tryz.underlying29 qY rfl WC r rfl TaC rfl Lz.ae W2.heap.size rfl HG.ae WC WC hbase ?_
      intro v4 w4 o4 g4
      obtain⟨A4,c4,hv4,_⟩:=o4.reads
      rw[length_append,length_singleton,kN] at hv4
      subst hv4
      have G4:=aa (Xr.ae.ku Lz.ae Tab g4)
      have gc:=G4.ae.cell 1
      have gf:=G4.ae.frozen 1
      simp only[Uaa] at gc
      have B4:=aa (br Lz.ae g4 hbase)
      have O4:=aa o4
      clear o4 g4))
   go_roundw;case rel=>have hgn:=O4.ae.other G4.ae Tab;refine⟨k+1,_,hlt,by go_num,G4.ae.aT 1 _,?_,(hb2.trans B4.ae).setCell TaR _⟩;rw[HS.ae];exact O4.ae.keep λ Lw LE=>Below.heap_setCell _ ⟨g,1,none⟩ _ Lw (λ e=>hgn (by rw[LE];exact congrArg some e))
   case measure=>exact Za1
  ·have fH:k=n:=by omega
   subst fH;have y0:=HO.ae.cell 0;have y1:=HO.ae.cell 1;have c2:=HO.ae.cell 2;simp only[Uaa] at y0 y1 c2;have Mg:=aa (show aB wr g6 33 #[az,az,af 0] from(hb.block g6 xd.ae.lt).trans xd.ae);open zha in exact ZeT
def eN (x:aW×aW):List Value:=[.slice x.1.A x.1.l.length x.1.c,.slice x.2.A x.2.l.length x.2.c]
def MN (x:aW×aW):fk:=⟨x.1.l,x.2.l⟩
theorem Tm:(Tryz.prog.info? 91).map (λ i=>(i.zero,i.size,i.bytes))=some (some (.agg #[az,az]),2,48):=by exact Zgx
variable{ds:List Bool}{gp:Nat}
def toD(x:aW×aW):L.aP ds gp:=⟨x.1,x.2⟩
variable{w w':World}{A:Option Addr}{l:List Val}
theorem bM.later(h:bM w A l)(hb:aj w w'):bM w' A l:=h.keep hb.size λ b cur hc=>hb.block b hc.lt
variable{α:Type}{f:α->List Value}{e:TypeId}{size base:Nat}{k:List Val}
theorem bM.own{v:Value} {l:List α}   (h:bM w A k)(ho:aI f e size w base v l)(he:44≠e)(hg:w.grownBy w' v.ownBlock):bM w' A k:=
 h.keep hg.size λ b cur hc=>hg.block b hc.lt λ e2=>ho.other hc he e2.symm
def O8 (ord:List (Tr×Bool))(LA:Option Addr)(dJ:List (aW×aW))(lv:Value)(w:World)(e:Ending)(w':World):Prop:=
 e=.returned (.tuple #[])/\∃E:Nat->aW×aW,aiC w' LA dJ.length E/\((List.range dJ.length).map λ i=>MN (E i)).map fk.row=(jr (ord.map λ o=>o.2) (dJ.map MN)).map fk.row/\(∀i,i < dJ.length->E i∈dJ)/\w.grownBy w' lv.ownBlock
theorem Tn:∀(l:List (aW×aW)) (i:Nat) x,l[i]?=some x->(l.flatMap eN)[i*2]?=some (.slice x.1.A x.1.l.length x.1.c)/\(l.flatMap eN)[i*2+1]?=some (.slice x.2.A x.2.l.length x.2.c)
 | [],i,x,h=>by simp at h
 | y::l,0,x,h=>by simp at h;subst h;exact⟨rfl,rfl⟩
 | y::l,i+1,x,h=>by
   have:=Tn l i x Tal;rw[flatMap_cons];rw[getElem?_append_right (by simp[eN];omega),getElem?_append_right (by simp[eN];omega)];have e1:(i+1)*2 - (eN y).length=i*2:=by simp[eN];omega
   have e2:(i+1)*2+1 - (eN y).length=i*2+1:=by simp[eN];omega
   rw[e1,e2];exact this
theorem QJ (gp:Nat)(ord:List (Tr×Bool))(oA:Option Addr)(on oc:Nat)(dJ:List (aW×aW))(base:Nat)(LA:Option Addr)(lc:Nat)(w:World)(ug:dJ.length<=1000)(SK:ord.length<=1599289640356)(sF:gp < w.heap.size)(BX:w.cell? ⟨gp,6,none⟩=some (.slice oA on oc))(hgt:∃cs,aB w gp 81 cs)(hO:eO w (ord.map λ x=>(x.1,Value.bool x.2)) oA on)
  (hOt:∀b,base<=b->∀w',w.grownBy w' (some b)->eO w' (ord.map λ x=>(x.1,Value.bool x.2)) oA on)
  (Xy:aI eN 91 2 w base (.slice LA dJ.length lc) dJ) (rS:∀x∈dJ,bM w x.1.A x.1.l/\bM w x.2.A x.2.l/\x.1.l.length<=1000/\x.2.l.length=ord.length):
  ar 38 #[.slice LA dJ.length lc,.func (.func 39) #[aw gp] #[]] w (O8 ord LA dJ (.slice LA dJ.length lc) w):=by
 by_cases h0:dJ=[]
 ·subst h0;refine(L.Ae LA lc w).mono ?_;rintro e w' ⟨rfl,rfl⟩;exact⟨rfl,λ _=>(⟨none,[],0⟩,⟨none,[],0⟩),.inl rfl,rfl,λ i hi=>by simp at hi,⟨rfl,rfl,rfl,Nat.le_refl _,λ _ _ _=>rfl⟩⟩
 ·have hlen:0 < dJ.length:=List.length_pos_iff.2 h0;obtain⟨Hp,h1 |⟨g,cap,cur,hv,hbg,hg,hlc,hm,hsz,lU⟩⟩:=Xy
  ·omega
  ·injection hv with e1 _ e2;subst e1 e2;have hD0:∀i,i < dJ.length->∃x,dJ[i]?=some x:=λ i hi=>⟨_,getElem?_eq_getElem hi⟩
   let d0:aW×aW:=(⟨none,[],0⟩,⟨none,[],0⟩);let D:Nat->L.aP (ord.map λ o=>o.2) gp:=λ i=>toD (dJ.getD i d0)
   have JV:∀i (hi:i < dJ.length),dJ.getD i d0=dJ[i]:=λ i hi=>by rw[getD_eq_getElem?_getD,getElem?_eq_getElem hi];rfl
   have nt:∀(j:Nat) v,(dJ.flatMap eN)[j]?=some v->cur[j]?=some v:=λ j v hj=>by
    rw[<- Array.getElem?_toList];have:(cur.toList.take (dJ.length*2))[j]?=some v:=by rw[lU];exact hj
    rw[getElem?_take] at this;split at this
    ·exact this
    ·cases this
   have hAt:L.At w g dJ.length D:=by
    refine⟨cur,hg,?_,λ i hi=>?_⟩
    ·rw[hsz];exact Nat.mul_le_mul_right 2 hlc
    ·obtain⟨f1,f2⟩:=Tn dJ i dJ[i] (getElem?_eq_getElem hi);refine⟨(nt _ _ f1).trans ?_,(nt _ _ f2).trans ?_⟩
     ·show _=some (Value.slice (dJ.getD i d0).1.A (dJ.getD i d0).1.l.length (dJ.getD i d0).1.c);rw[JV i hi]
     ·show _=some (Value.slice (dJ.getD i d0).2.A (dJ.getD i d0).2.l.length (dJ.getD i d0).2.c);rw[JV i hi]
   have hRN:∀r:aW,bM w r.A r.l->L.RN w g r:=λ r hr=>by
    rcases hr.rv with h |⟨b,off,e1,e2,e3⟩
    ·exact .inl h
    ·obtain⟨cs,hcs⟩:=hr.ty _ e1;exact .inr ⟨b,off,e1,e2,λ e=>by have:=kS hcs hg Tab;exact this e,e3⟩
   have aiD:∀k,k < dJ.length->L.RN w g (D k).row/\L.RN w g (D k).keys/\(D k).row.l.length<=1000/\(D k).keys.l.length=(ord.map λ o=>o.2).length:=λ k hk=>by
    have hx:=rS dJ[k] (getElem_mem hk);have e:D k=toD dJ[k]:=by show toD (dJ.getD k d0)=_;rw[JV k hk]
    rw[e];exact⟨hRN _ hx.1,hRN _ hx.2.1,hx.2.2.1,by rw[length_map];exact hx.2.2.2⟩
   have ee:gp≠g:=by obtain⟨cs,hcs⟩:=hgt;exact kS hcs hg Tab
   have avf:L.afH (ord.map λ o=>o.2) gp w g:=λ x y W hW r1 r2 r3 r4 l1 l2 l3 l4=>by rw[length_map] at l3 l4;have hc:=MH gp ord oA on oc ⟨x.row,x.keys⟩ ⟨y.row,y.keys⟩ W SK (Nat.lt_of_lt_of_le sF hW.size) ((bI (hW.block gp sF (λ e=>ee Tbh)) 6).trans BX) (hOt g hbg W hW) ⟨r1.rv hW,r2.rv hW,l3,l1⟩ ⟨r3.rv hW,r4.rv hW,l4,l2⟩;exact hc
   refine(L.Dj w g dJ.length lc D w ⟨hAt,World.grownBy.refl w _,aiD,avf⟩ ug).mono ?_;rintro e w' ⟨rfl,E,hS,hSw,hSr⟩;refine⟨rfl,λ i=>((E i).row,(E i).keys),.inr ⟨g,rfl,Nat.lt_of_lt_of_le (show aB w g 91 cur from hg).lt hS.grown.size,λ i hi=>⟨hS.at_.cell i hi,hS.at_.dF i hi⟩⟩,?_,λ i hi=>?_,hS.grown⟩
   ·have hD:((List.range dJ.length).map D).map (λ x:L.aP (ord.map λ o=>o.2) gp=>x.s)=dJ.map MN:=by
     rw[map_map];apply ext_getElem
     ·simp
     ·intro i i1 i2;have hi:i < dJ.length:=by simpa using i2
      simp only[getElem_map,getElem_range];show(toD (ds:=ord.map λ o=>o.2) (gp:=gp) (dJ.getD i d0)).s=MN dJ[i];rw[JV i hi];rfl
    have hE:((List.range dJ.length).map λ i=>MN ((E i).row,(E i).keys))=((List.range dJ.length).map E).map (λ x:L.aP (ord.map λ o=>o.2) gp=>x.s):=by rw[map_map];rfl
    rw[hE];have hp:(((List.range dJ.length).map E).map (λ x:L.aP (ord.map λ o=>o.2) gp=>x.s)).Perm (dJ.map MN):=by rw[<- hD];exact(hSw.perm (Nat.le_refl _)).map _
    unfold jr;refine OD (mo _) fk.row (λ x y h=>PQ h) _ _ (hp.trans (oV _ _).symm) ?_ (oX (mo _) _);rw[pairwise_map,pairwise_iff_getElem];intro i j hi hj nP;simp at hi hj;simp only[getElem_map,getElem_range];exact hSr i j WC nP hj
   ·obtain⟨k',_,Ru,he⟩:=hSw.mem i (Nat.zero_le _) hi;show((E i).row,(E i).keys)∈dJ;rw[he];show((toD (ds:=ord.map λ o=>o.2) (gp:=gp) (dJ.getD k' d0)).row,(toD (ds:=ord.map λ o=>o.2) (gp:=gp) (dJ.getD k' d0)).keys)∈dJ;rw[JV k' Ru];exact getElem_mem Ru
theorem We (u:World):(sizeOf (Tryz.prog.elem 85)).run Tryz.prog u=.ok 2 u:=by exact Zgx
theorem Wf (A1:Option Addr)(n c1 k:Nat)(hk:k<=c1)(u:World):(Instr.slice 85 (.slice A1 n c1) none (some (af k)) none).run Tryz.prog u=.ok (.slice A1 k c1) u:=by rw[run_slice_h u 85 A1 n c1 Tryz.underlying85 .i64 k WC WC,We];exact Zhg
theorem zcS.Kax(h:p:=by
 clear I3 h hF ih q1 q2 q3 q4 q5 Av Tp B3 hz Nk BX Lw hOt;have hh:=λ(n:Nat) (uX:n<=1000) D T hT h6 h8 Wc d w1 Q=>adk gp g6 n lc LA D HA hn hc T hT h6 h8 Wc d w1 Q WC
 simp only[ey,fy,Tryz.f11,Option.getD_some] at hh;have aiG:=aa hh;clear hh;simp only[ey,fy,Tryz.f11,Option.getD_some];refine wp_seq_k λ K hK=>?_
 have HK:=aa hK;clear hK;go_wp2_with fail;refine HSO.ae.mono ?_;rintro e w1 ⟨rfl,E,hE,hs,hm,hg⟩;have HE:=aa hE;have Kx:=aa hs;have HM:=aa hm;have HG:=aa hg;clear hE hs hm hg HSO;go_wp2_with fail;refine HK.ae _ _ ?_;clear HK;have aiH:w1.cell? ⟨gp,12,none⟩=some (.slice HA hn hc):=by obtain⟨cs,hcs⟩:=Q1.ae;exact(bI (HG.ae.block gp HFN.ae λ e=>HF.ae.other hcs Tab e.symm) 12).trans Q3.ae
 have hk7:w1.cell? ⟨g3,7,none⟩=some (.slice lA lim.length lc2):=by obtain⟨cs,hcs⟩:=Q5.ae;exact(bI (HG.ae.block g3 hcs.lt λ e=>HF.ae.other hcs Tab e.symm) 7).trans Q4.ae
 have hb1:Below base w w1:=br HF.ae HG.ae GI.ae;have QK:=aa (show aB w1 g6 33 #[az,az,af 0] from IH.ae.ku HF.ae Tab HG.ae);have Ii:gp < w1.heap.size:=Nat.lt_of_lt_of_le HFN.ae HG.ae.size
 have hO:∀(n:Nat) (TU:n<=dJ.length) (afL:((List.range n).map λ i=>MN (E i)).map fk.row=((match lim with | []=>jr (ord.map λ o:Tr×Bool=>o.2) (dJ.map MN)| n::_=>(jr (ord.map λ o:Tr×Bool=>o.2) (dJ.map MN)).take n.toNat).map fk.row)) (a:Act) W ov,a.defers=d->a.tmps.getD 6 undef=aw g6->a.tmps.getD 7 undef=af 0->aB W g6 33 #[.slice HA hn hc,ov,af n]->aI ck 38 1 W w1.heap.size ov (rowsOf E n)->w1.grownBy W (some g6)->Q .ret a W:=by
  intro n TU afL a W ov e1 e2 e3 k6 oW gW;refine HS.ae a W ov (rowsOf E n) e1 e2 e3 (by rw[Dl];exact k6) (oW.down (Nat.le_trans GI.ae HG.ae.size)) (λ r hr=>?_) ?_ ?_
  ·unfold rowsOf at hr;obtain⟨i,hi,rfl⟩:=List.mem_map.1 hr;have hi:i < n:=List.mem_range.1 hi;have hx:=F7.ae _ (HM.ae i WC);exact(hx.1.own HF.ae Tab HG.ae).keep gW.size λ b cur xX=>gW.block b xX.lt λ e=>by injection e with e;subst e;exact kS xX QK.ae Tab rfl
  ·rw[<- afL];unfold rowsOf;rw[map_map,map_map];rfl
  ·exact⟨w1,HG.ae,gW⟩
 have HO:=aa hO;clear hO;refine wp_seq_k λ K hK=>?_
 have HK:=aa hK;clear hK;rcases lim with _ |⟨n,_ |⟨n2,lim⟩⟩
 ·have mh:=HO.ae dJ.length (Nat.le_refl _) Kx.ae;clear HO;have Ly:=aa mh;clear mh;go_wp2_with fail;exact HK.ae _ _ (aiG.ae dJ.length ug E _ rfl rfl rfl rfl d w1 Q Ii aiH QK.ae HE.ae λ a W ov e1 e2 e3 k6 oW gW=>Ly.ae a W ov e1 e2 e3 k6 oW gW)
 ·obtain⟨n0,n1⟩:=E1.ae n Tad;obtain hl2 |⟨lb,lo,hA,xJ,cf⟩:=oz.ae
  ·cases hl2
  ·have hl0:=cf 0 n rfl;have B3:w1.cell? ⟨lb,lo,none⟩=some (af n):=by rw[Nat.add_zero] at hl0;refine(bI (HG.ae.block lb (Nat.lt_of_lt_of_le xJ GI.ae) λ e=>?_) lo).trans hl0;have:=(HF.ae.lt e.symm).2.1;omega
   subst hA;obtain⟨k,hk⟩:∃k:Nat,n=k:=⟨n.toNat,by omega⟩;subst hk;have hs2:=Wf LA dJ.length lc (min dJ.length k) WC w1;have mh:=HO.ae (min dJ.length k) (Nat.min_le_left _ _) (by
    have h1:=congrArg (List.take k) Kx.ae
    rw[<- map_take,<- map_take,<- map_take,take_range] at h1
    rw[Nat.min_comm]
    exact h1)
   have mJ:aiC w1 LA (min dJ.length k) E:=by
    rcases HE.ae with h |⟨g,KK,LT,LE⟩
    ·exact .inl WC
    ·exact .inr ⟨g,KK,LT,λ i hi=>LE i WC⟩
   have Ly:=aa mh;have Ey:=aa mJ;clear mh mJ HO hl0 xJ cf oz;by_cases hlt:k < dJ.length
   ·have AK:min dJ.length k=k:=by omega
    rw[AK] at hs2 Ly Ey;have tu:((k:Int)<(dJ.length:Int)):=by omega
    go_wp2_with fail;have hmt:(min (dJ.length:Int) (k:Int)).toNat=k:=by omega
    simp only[hmt];exact HK.ae _ _ (aiG.ae k WC E _ rfl rfl rfl rfl d w1 Q Ii aiH QK.ae Ey.ae λ a W ov e1 e2 e3 k6 oW gW=>Ly.ae a W ov e1 e2 e3 k6 oW gW)
   ·have AK:min dJ.length k=dJ.length:=by omega
    rw[AK] at hs2 Ly Ey;have tu:¬((k:Int)<(dJ.length:Int)):=by omega
    go_wp2_with fail;have hmt:(min (dJ.length:Int) (k:Int)).toNat=dJ.length:=by omega
    simp only[hmt];exact HK.ae _ _ (aiG.ae dJ.length WC E _ rfl rfl rfl rfl d w1 Q Ii aiH QK.ae Ey.ae λ a W ov e1 e2 e3 k6 oW gW=>Ly.ae a W ov e1 e2 e3 k6 oW gW)
 ·have:=Ai.ae;simp at this):p:=h
theorem O9 (gp g3 g6:Nat)(ord:List (Tr×Bool))(oA:Option Addr)(on oc:Nat)(lim:List Int)(lA:Option Addr)(lc2:Nat)(dJ:List (aW×aW))(base:Nat)(LA:Option Addr)(lc:Nat)(HA:Option Addr)(hn hc:Nat)(T:Array Value)(hT:T.size=183)(h3:T.getD 3 undef=aw g3)(h6:T.getD 6 undef=aw g6)(h8:T.getD 8 undef=aw gp)(Wc:T.getD 13 undef=.slice LA dJ.length lc)(d:List Deferred)(w:World)(Q:Exit->Act->World->Prop)
  (ug:dJ.length<=1000) (SK:ord.length<=1599289640356) (q2:gp < w.heap.size) (q3:w.cell? ⟨gp,12,none⟩=some (.slice HA hn hc)) (BX:w.cell? ⟨gp,6,none⟩=some (.slice oA on oc)) (q1:∃cs,aB w gp 81 cs) (Lw:eO w (ord.map λ x=>(x.1,Value.bool x.2)) oA on)
  (hOt:∀b,base<=b->∀w',w.grownBy w' (some b)->eO w' (ord.map λ x=>(x.1,Value.bool x.2)) oA on)
  (q4:w.cell? ⟨g3,7,none⟩=some (.slice lA lim.length lc2)) (q5:∃cs,aB w g3 27 cs) (Av:lim=[]\/∃b off,lA=some ⟨b,off,none⟩/\b < base/\∀i x,lim[i]?=some x->w.cell? ⟨b,off+i,none⟩=some (af x)) (Tp:∀n∈lim,0<=n/\n<=9223372036854775807) (B3:lim.length<=1)
  (ih:aB w g6 33 #[az,az,af 0]) (hz:base<=w.heap.size)
  (hF:aI eN 91 2 w base (.slice LA dJ.length lc) dJ) (Nk:∀x∈dJ,bM w x.1.A x.1.l/\bM w x.2.A x.2.l/\x.1.l.length<=1000/\x.2.l.length=ord.length)
  (h:∀a W ov (out:List aW),a.defers=d->a.tmps.getD 6 undef=aw g6->a.tmps.getD 7 undef=af 0->aB W g6 33 #[.slice HA hn hc,ov,af out.length]->aI ck 38 1 W base ov out->(∀r∈out,bM W r.A r.l)->out.map (·.l)=((match lim with | []=>jr (ord.map λ o:Tr×Bool=>o.2) (dJ.map MN)| n::_=>(jr (ord.map λ o:Tr×Bool=>o.2) (dJ.map MN)).take n.toNat).map fk.row)->(∃wm,w.grownBy wm (Value.slice LA dJ.length lc).ownBlock/\wm.grownBy W (some g6))->Q .ret a W):
  (fy ey 12).wp Tryz.prog Q { tmps:=T,defers:=d } w:=by
 obtain⟨f,rfl⟩:=yt T hT;have h3:f 3=_:=h3;have h6:f 6=_:=h6;have h8:f 8=_:=h8;have Wc:f 13=_:=Wc;simp only[XG,h3,h6,h8,Wc];clear h3 h6 h8 Wc;clear h3 h6 h8 Wc hT;have I3:=QJ gp ord oA on oc dJ base LA lc w ug SK q2 BX q1 Lw hOt hF Nk;have hle:dJ.length<=lc:=by obtain⟨_,_,e,_,hl,_⟩:=hF.reads;injection e with _ _ e;rw[e];exact hl
 have HSO:=aa I3;have HS:=aa h;open zcS in exact Zbd
end Go.Proofs.YtndgjggokjickaaGreatDoor
