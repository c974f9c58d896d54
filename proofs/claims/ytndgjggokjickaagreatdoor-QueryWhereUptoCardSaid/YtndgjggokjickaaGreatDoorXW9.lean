/- Parts of the proof. -/
import Derived.Test.YtndgjggokjickaaGreatDoorXW8
namespace Go.Proofs.YtndgjggokjickaaGreatDoor
set_option maxHeartbeats 90000000
set_option maxRecDepth 100000
open Go.ChangeShapes Go.WideShapes Go.ChangeAt Go.RowKit List
set_option linter.unusedVariables false
set_option linter.unusedSimpArgs false
def c4V (g4 g5 k b1 o1 b2 o2:Nat)(ka kb:Value)(x y:Val):Nat->World->Value->Prop
 | 0,_,v=>v=ba g4 1
 | 1,_,v=>v=ka
 | 2,_,v=>v=af k
 | 3,_,v=>v=ba b1 (o1+k*3)
 | 4,_,v=>v=.agg (aD x)
 | 5,_,v=>v=ba g5 1
 | 6,_,v=>v=kb
 | 7,_,v=>v=af k
 | 8,_,v=>v=ba b2 (o2+k*3)
 | 9,_,v=>v=.agg (aD y)
 | 10,_,v=>v=af (bM x y)
 | 11,_,v=>v=af (bM x y)
 | _,_,_=>False
theorem VQ (g4 g5 k b1 o1 b2 o2:Nat)(ka kb:Value)(x y:Val):∀i w w' v,c4V g4 g5 k b1 o1 b2 o2 ka kb x y i w v->ai w w'->c4V g4 g5 k b1 o1 b2 o2 ka kb x y i w' v:=by
 intro i w w' v h hl
 match i with
 | 0 | 1 | 2 | 3 | 4 | 5 | 6 | 7 | 8 | 9 | 10 | 11=>exact h
 | n+12=>exact h
structure pV where
 row:aX
 keys:aX
def pV.v (l:pV):Value:=.agg #[.slice l.row.A l.row.l.length l.row.c,.slice l.keys.A l.keys.l.length l.keys.c]
def pV.s (l:pV):fC:=⟨l.row.l,l.keys.l⟩
structure pV.At (w:World) (l:pV) (n:Nat):Prop where
 row:RV w w.heap.size l.row.A l.row.l
 keys:RV w w.heap.size l.keys.A l.keys.l
 len:l.keys.l.length=n
 short:l.row.l.length<=1000
variable{w w':World}{l:pV}{n:Nat}
theorem pV.At.later(h:l.At w n)(hb:aj w w'):l.At w' n:=⟨h.row.later hb,h.keys.later hb,h.len,h.short⟩
variable{x y:Int}
theorem O5(h:x≠0):ou x y=x:=if_neg h
theorem GF:ou 0 y=y:=if_pos rfl
variable{d:Bool}{ds:List Bool}{a b:Val}{la lb:List Val}
theorem QD:vI (d::ds) (a::la) (b::lb)=ou (Zh d a b) (vI ds la lb):=rfl
theorem VR (x y z:Int):ou (ou x y) z=ou x (ou y z):=by
 unfold ou;repeat' split
 all_goals first | rfl |(exfalso;omega)| omega
theorem MK (gp:Nat)(aL:List (Tr×Bool))(oA:Option Addr)(on oc:Nat)(a b:pV)(w:World)(q4:aL.length<=1599289640356)(sx:gp < w.heap.size)(BW:w.cell? ⟨gp,6,none⟩=some (.slice oA on oc))(hO:eP w (aL.map λ x=>(x.1,Value.bool x.2)) oA on)(nU:a.At w aL.length)(hb:b.At w aL.length):
  ar 39 #[aw gp,a.v,b.v] w λ e w'=>e=.returned (af (BD (aL.map λ x=>x.2) a.s b.s))/\aj w w':=by
 obtain⟨hn,ys,hys,a2,hy3⟩:=hO;rw[length_map] at hn;subst hn;have C3:ys.length=aL.length:=by have:=congrArg List.length a2;simpa using this
 have Tn:∀(k:Nat) (z:Ex×Value) (o:Tr×Bool),ys[k]?=some z->aL[k]?=some o->z.2=.bool o.2:=λ k z o hz ho=>by have h1:=congrArg (λ l=>l[k]?) a2;simp only[getElem?_map,hz,ho,Option.map_some] at h1;injection h1
 clear a2 hy3;obtain⟨⟨rA,rl,rc⟩,⟨kA,kl,kc⟩⟩:=a;obtain⟨⟨sA,sl,sc⟩,⟨jA,jl,jc⟩⟩:=b;obtain⟨rt,hrt⟩:∃rt,rt=BD (aL.map λ x=>x.2) (pV.s ⟨⟨rA,rl,rc⟩,⟨kA,kl,kc⟩⟩) (pV.s ⟨⟨sA,sl,sc⟩,⟨jA,jl,jc⟩⟩):=⟨_,rfl⟩;rw[<- hrt];have q5:=nU.len;have Au:=hb.len;dsimp only at q5 Au;unfold pV.v;dsimp only;have apl:rt=ou (vI ((aL.map λ x=>x.2).drop 0) (kl.drop 0) (jl.drop 0)) (cH rl sl):=hrt;have Ld:=aa apl;clear hrt apl;have Q4:=aa q4;have Q5:=aa q5;have oy:=aa Au;have F2:=aa Tn;have Ag:=aa C3;have b0:=ah w (.cells #[.slice rA rl.length rc,.slice kA kl.length kc] 91);have ox:=aB.new w 91 #[.slice rA rl.length rc,.slice kA kl.length kc];have b2:=ah (w.alloc (.cells #[.slice rA rl.length rc,.slice kA kl.length kc] 91)) (.cells #[.slice sA sl.length sc,.slice jA jl.length jc] 91);have HZ:=aB.new (w.alloc (.cells #[.slice rA rl.length rc,.slice kA kl.length kc] 91)) 91 #[.slice sA sl.length sc,.slice jA jl.length jc];replace ox:=ox.later b2;have bb:=ai.then b0 b2;rw[World.size_alloc] at HZ;have sP:=aa (nU.later bb);have HBL:=aa (hb.later bb);have HY:=aa (hys.later bb);have HPO:=aa ((bb.cell (p:=⟨gp,6,none⟩) sx).trans BW);have JP:=aa (Nat.lt_of_lt_of_le sx bb.size);have HB:=aa bb;clear nU hb hys BW sx bb b0 b2 q4 q5 Au Tn C3;go_enter Tryz.func39,Tryz.ntmps39;go_upto_region 1 with fail;generalize World.alloc (World.alloc w _) _=W at*;obtain⟨g4,hg4⟩:∃g4,g4=w.heap.size+1:=⟨_,rfl⟩;rw[<- hg4] at HZ ⊢;clear hg4;obtain⟨LE,Ly⟩:∃LE,LE=w.heap.size:=⟨_,rfl⟩;rw[<- Ly] at ox ⊢;clear Ly;have BW:=HPO.ae;have apm:=aa ox;have apn:=aa HZ
 clear ox HZ;go_wp2_with fail;clear BW;go_loopw [16] (λ i wr=>∃k:Nat,k<=aL.length/\i=af k/\rt=ou (vI ((aL.map λ x=>x.2).drop k) (kl.drop k) (jl.drop k)) (cH rl sl)/\aj W wr) (λ i _=>aL.length - (intOf i).toNat);case atStart=>exact⟨0,Nat.zero_le _,rfl,Ld.ae,Below.refl _ _⟩
 case round=>
  clear Ld;obtain⟨k,hk,rfl,hp,hb⟩:=hrel;have HK:=aa hp;clear hp;by_cases hlt:k < aL.length
  ·have aiG:k < kl.length:=by have:=Q5.ae;omega
   have aiH:k < jl.length:=by have:=oy.ae;omega
   have apo:k < ys.length:=by have:=Ag.ae;omega
   obtain⟨bo,oo,rfl,Cg,hex,hd⟩:=(HY.ae.below hb).at_ apo;rw[F2.ae k _ _ (getElem?_eq_getElem apo) (getElem?_eq_getElem hlt)] at hd;obtain⟨b2,o1,Uq,hb1,hx1⟩:=(sP.ae.keys.below hb).at_ aiG;obtain⟨KK,o2,Al,hb2,hx2⟩:=(HBL.ae.keys.below hb).at_ aiH;dsimp only at Uq Al;subst Uq Al;have II:=aa (show(aL.map λ x=>x.2).drop k=aL[k].2::(aL.map λ x=>x.2).drop (k+1) by rw[drop_eq_getElem_cons Tan];simp);have JS:=aa (show kl.drop k=kl[k]::kl.drop (k+1)from drop_eq_getElem_cons aiG);have HD3:=aa (show jl.drop k=jl[k]::jl.drop (k+1)from drop_eq_getElem_cons aiH);generalize aL[k].2=ds at*;generalize kl[k]=x at*;generalize jl[k]=y at*;generalize ys[k]=z at*;obtain⟨z1,z2⟩:=z;dsimp only at hex hd;unfold cw at hex;unfold ei at hx1 hx2;go_upto_region 4 with fail;have RM:=hx1;have hcy:=hx2;have HG:=aB.new wr 117 #[ag z1.op,ag z1.v.k,af z1.v.n,.string z1.v.s,.string z1.name,af z1.width,.slice z1.A z1.n z1.c,.bool ds];have bV:=ah wr (.cells #[ag z1.op,ag z1.v.k,af z1.v.n,.string z1.v.s,.string z1.name,af z1.width,.slice z1.A z1.n z1.c,.bool ds] 117);have ox:=(apm.ae.later hb).later bV;have HZ:=(apn.ae.later hb).later bV;have O6:b2 < wr.heap.size:=Nat.lt_of_lt_of_le hb1 hb.size;have O7:KK < wr.heap.size:=Nat.lt_of_lt_of_le hb2 hb.size;have HX:=aa (And.intro (bV.cell (p:=⟨b2,o1+k*3,none⟩) O6 |>.trans RM.1) (And.intro (bV.cell (p:=⟨b2,o1+k*3+1,none⟩) O6 |>.trans RM.2.1) (bV.cell (p:=⟨b2,o1+k*3+2,none⟩) O6 |>.trans RM.2.2)));have HYY:=aa (And.intro (bV.cell (p:=⟨KK,o2+k*3,none⟩) O7 |>.trans hcy.1) (And.intro (bV.cell (p:=⟨KK,o2+k*3+1,none⟩) O7 |>.trans hcy.2.1) (bV.cell (p:=⟨KK,o2+k*3+2,none⟩) O7 |>.trans hcy.2.2)))
   have eB:=aa (Nat.lt_of_lt_of_le O6 bV.size);have fG:=aa (Nat.lt_of_lt_of_le O7 bV.size);have hB:=ai.then hb bV;generalize wr.alloc _=W2 at*;obtain⟨g8,Xv⟩:∃g8,g8=wr.heap.size:=⟨_,rfl⟩;rw[<- Xv] at HG ⊢;clear Xv hx1 hx2 RM hcy hex hd bV O6 O7 hb;refine bA 12 (c4V LE g4 k b2 o1 KK o2 (.slice (some ⟨b2,o1,none⟩) kl.length kc) (.slice (some ⟨KK,o2,none⟩) jl.length jc) x y) (VQ _ _ _ _ _ _ _ _ _ _ _) Va Va Va ?_ ?_
   ·simp only[take_succ_cons,take_zero];refine⟨Z1,?_,Z1,?_,?_,Z1,?_,Z1,?_,?_,?_,Z1,trivial⟩
    ·intro ρ w3 hc hL hr;have h0:_=_:=hr.1;have Kx:=(ox.later hL).cell 1;exact ZaO
    ·intro ρ w3 hc hL hr;have h0:_=_:=hr.1;have h1:_=_:=hr.2.1;have sX:(k:Int)<(kl.length:Int):=by omega
     exact aq (w':=w3) (by simp[go_sem,h0,h1,sX,aiG,dQ];done) ⟨ai.refl _,rfl⟩
    ·intro ρ w3 hc hL hr;have h0:_=_:=hr.1;have c0:=(hL.cell (p:=⟨b2,o1+k*3,none⟩) eB.ae).trans HX.ae.1;have c1:=(hL.cell (p:=⟨b2,o1+k*3+1,none⟩) eB.ae).trans HX.ae.2.1;have c2:=(hL.cell (p:=⟨b2,o1+k*3+2,none⟩) eB.ae).trans HX.ae.2.2;exact Zdl
    ·intro ρ w3 hc hL hr;have h0:_=_:=hr.1;have Kx:=(HZ.later hL).cell 1;exact ZaO
    ·intro ρ w3 hc hL hr;have h0:_=_:=hr.1;have h1:_=_:=hr.2.1;have sX:(k:Int)<(jl.length:Int):=by omega
     exact aq (w':=w3) (by simp[go_sem,h0,h1,sX,aiH,dQ];done) ⟨ai.refl _,rfl⟩
    ·intro ρ w3 hc hL hr;have h0:_=_:=hr.1;have c0:=(hL.cell (p:=⟨KK,o2+k*3,none⟩) fG.ae).trans HYY.ae.1;have c1:=(hL.cell (p:=⟨KK,o2+k*3+1,none⟩) fG.ae).trans HYY.ae.2.1;have c2:=(hL.cell (p:=⟨KK,o2+k*3+2,none⟩) fG.ae).trans HYY.ae.2.2;exact Zdl
    ·intro ρ w3 hc hL hr;have h0:_=_:=hr.1;have h1:_=_:=hr.2.1;have e1:=hc.func 18;refine bu (f:=18) (args:= #[.agg (aD x),.agg (aD y)]) (w':=w3) Tar ?_;refine(ee x y w3).mono ?_;exact Zbg
   intro W3 hL;simp only[Uab];rintro a0 - a1 - Lw - a3 - a4 - a5 - a6 - a7 - a8 - a9 - FH - _ rfl;simp only[bD,Act.put,Uac];have hst:rt=ou (Zh ds x y) (ou (vI ((aL.map λ x=>x.2).drop (k+1)) (kl.drop (k+1)) (jl.drop (k+1))) (cH rl sl)):=by rw[HK.ae,II.ae,JS.ae,HD3.ae,QD,VR]
   have d7:=(HG.later hL).cell 7;simp only[Uaa] at d7;have hW:=ai.then hB hL;have hvb:=Ib x y;have mo:Zh ds x y=if ds=true then -(bM x y)else bM x y:=rfl;rw[mo] at hst;clear mo HG ox HZ HX HYY eB fG hB hL HK II JS HD3;generalize bM x y=vv at*;obtain⟨v1,v2⟩:=hvb;by_cases h0:vv=0
   ·subst h0;have q4:=Q4.ae;have HR:=aa (show rt=ou (vI ((aL.map λ x=>x.2).drop (k+1)) (kl.drop (k+1)) (jl.drop (k+1))) (cH rl sl) by rw[hst];cases ds <;> exact GF);clear hst v1 v2;cases ds
    ·exact ZcA
    ·exact ZcA
   ·cases ds
    ·have hr:rt=vv:=by rw[hst];exact O5 (by simpa using h0)
     subst hr;have t1:(rt != 0)=true:=by simpa using h0
     have t2:decide (rt=0)=false:=by simpa using h0
     clear hst h0;go_wp2_with fail;go_ret;exact⟨rfl,ai.then HB.ae hW⟩
    ·have hr:rt= -vv:=by rw[hst];exact O5 Tab
     have t1:((-vv) != 0)=true:=by simp;omega
     have t2:decide ((-vv)=0)=false:=by simp;omega
     have HMX:=aa hr;clear hst h0 hr;exact ZgY
  ·have fw:k=aL.length:=by omega
   have hr:rt=cH rl sl:=by rw[HK.ae,drop_eq_nil_of_le (by rw[length_map];omega)];exact GF
   subst hr;have hra:=(sP.ae.later hb).row;have hrb:=(HBL.ae.later hb).row;dsimp only at hra hrb;have l1:=(apm.ae.later hb).cell 0;have l2:=(apn.ae.later hb).cell 0;simp only[getElem?_toArray,getElem?_cons_zero] at l1 l2;have hrw:=KL rA rc rl sA sc sl wr hra hrb sP.ae.short HBL.ae.short;have HH:=aa hrw;clear hra hrb hrw HK;go_wp2_with fail;refine HH.ae.mono ?_;rintro e w1 ⟨rfl,b1⟩;go_wp2_with fail;go_ret;exact⟨rfl,ai.then HB.ae (ai.then hb b1)⟩
end Go.Proofs.YtndgjggokjickaaGreatDoor
namespace Go.Proofs.YtndgjggokjickaaGreatDoor.L
variable{p:Prop}
set_option maxHeartbeats 90000000
set_option maxRecDepth 100000
open Go.ChangeShapes Go.WideShapes Go.ChangeAt Go.RowKit List
set_option linter.unusedVariables false
set_option linter.unusedSimpArgs false
structure aP (ds:List Bool) (gp:Nat) where
 row:aX
 keys:aX
variable {ds:List Bool} {gp:Nat}
def aP.rv (x:aP ds gp):Value:=.slice x.row.A x.row.l.length x.row.c
def aP.kv (x:aP ds gp):Value:=.slice x.keys.A x.keys.l.length x.keys.c
def aP.s (x:aP ds gp):fC:=⟨x.row.l,x.keys.l⟩
def fZ (x y:aP ds gp):Int:=BD ds x.s y.s
theorem GG (x y:aP ds gp):fZ y x= -(fZ x y):=(pB ds).jn _ _
theorem VS (x:aP ds gp):fZ x x=0:=by have:=GG x x;omega
theorem QF (x y z:aP ds gp)(h:fZ x y<=0)(k:fZ y z<=0):fZ x z<=0:=(pB ds).trans _ _ _ h k
def RN (w:World)(g:Nat)(r:aX):Prop:=
 r.l=[]\/∃b off,r.A=some ⟨b,off,none⟩/\b < w.heap.size/\b≠g/\∀i x,r.l[i]?=some x->ei w b (off+i*3) x
variable{w w':World}{g:Nat}
theorem RN.rv{r:aX}(h:RN w g r)(hg:w.grownBy w' (some g)):RV w' w'.heap.size r.A r.l:=by
 rcases h with h |⟨b,off,h1,h2,h3,h4⟩
 ·exact .inl h
 ·refine .inr ⟨b,off,h1,Nat.lt_of_lt_of_le h2 hg.size,λ i x hx=>(h4 i x hx).keep λ o=>?_⟩;have hb:=hg.block b h2 (λ e=>h3 Tbi);unfold World.cell?;simp only[hb]
def At (w:World)(g n:Nat)(D:Nat->aP ds gp):Prop:=∃cs,aB w g 91 cs/\n*2<=cs.size/\∀i,i < n->cs[i*2]?=some (D i).rv/\cs[i*2+1]?=some (D i).kv
variable{n:Nat}{D:Nat->aP ds gp}
theorem At.cell(h:At w g n D)(i:Nat)(hi:i < n):w.cell? ⟨g,i*2,none⟩=some (.slice (D i).row.A (D i).row.l.length (D i).row.c):=by obtain⟨cs,hb,_,hc⟩:=h;rw[hb.cell,(hc i hi).1];rfl
theorem At.dG(h:At w g n D)(i:Nat)(hi:i < n):w.cell? ⟨g,i*2+1,none⟩=some (.slice (D i).keys.A (D i).keys.l.length (D i).keys.c):=by obtain⟨cs,hb,_,hc⟩:=h;rw[hb.cell,(hc i hi).2];rfl
theorem At.frozen(h:At w g n D)(i:Nat):w.frozen? ⟨g,i,none⟩=false:=by obtain⟨cs,hb,_,hc⟩:=h;exact hb.frozen i
theorem At.later(h:At w g n D)(hb:aj w w'):At w' g n D:=by obtain⟨cs,h1,h2,h3⟩:=h;exact⟨cs,h1.later hb,h2,h3⟩
def swp (D:Nat->aP ds gp)(i j:Nat):Nat->aP ds gp:=λ k=>if k=j then D i else if k=i then D j else D k
variable{cs:Array Value}{q:Nat}{u:Value}
theorem Th{p:Nat} {v:Value}:(((cs.setIfInBounds (p*2) u).setIfInBounds (p*2+1) v))[q*2]?=(if q=p then(if p*2 < cs.size then some u else none)else cs[q*2]?)/\(((cs.setIfInBounds (p*2) u).setIfInBounds (p*2+1) v))[q*2+1]?=(if q=p then(if p*2+1 < cs.size then some v else none)else cs[q*2+1]?):=by
 rw[Array.getElem?_setIfInBounds,Array.getElem?_setIfInBounds,Array.getElem?_setIfInBounds,Array.getElem?_setIfInBounds];simp only[Array.size_setIfInBounds];constructor
 ·exact Zhn
 ·exact Zhn
theorem At.swap(h:At w g n D)(i j:Nat)(hi:i < n)(hj:j < n):At (((((w.setCell ⟨g,i*2,none⟩ (D j).rv).setCell ⟨g,i*2+1,none⟩ (D j).kv).setCell ⟨g,j*2,none⟩ (D i).rv).setCell ⟨g,j*2+1,none⟩ (D i).kv).drew) g n (swp D i j):=by
 obtain⟨cs,h1,h2,h3⟩:=h;refine⟨((((cs.setIfInBounds (i*2) (D j).rv).setIfInBounds (i*2+1) (D j).kv).setIfInBounds (j*2) (D i).rv).setIfInBounds (j*2+1) (D i).kv),((((h1.aU (i*2) _).aU (i*2+1) _).aU (j*2) _).aU (j*2+1) _).drew,by simpa using h2,λ k hk=>?_⟩;obtain⟨e0,e1⟩:=h3 k hk;unfold swp;obtain⟨a1,a2⟩:=Th (cs:=(cs.setIfInBounds (i*2) (D j).rv).setIfInBounds (i*2+1) (D j).kv) (p:=j) (q:=k) (u:=(D i).rv) (v:=(D i).kv);obtain⟨b1,b2⟩:=Th (cs:=cs) (p:=i) (q:=k) (u:=(D j).rv) (v:=(D j).kv);rw[a1,a2,b1,b2];simp only[Array.size_setIfInBounds];by_cases c1:k=j
 ·rw[if_pos c1,if_pos c1,if_pos c1,if_pos WC,if_pos WC];exact Zfo
 ·rw[if_neg c1,if_neg c1,if_neg c1];by_cases c2:k=i
  ·rw[if_pos c2,if_pos c2,if_pos c2,if_pos WC,if_pos WC];exact Zfo
  ·rw[if_neg c2,if_neg c2,if_neg c2];exact⟨e0,e1⟩
def afP (ds:List Bool)(gp:Nat)(w0:World)(g:Nat):Prop:=∀(x y:aP ds gp) W,w0.grownBy W (some g)->RN w0 g x.row->RN w0 g x.keys->RN w0 g y.row->RN w0 g y.keys->x.row.l.length<=1000->y.row.l.length<=1000->x.keys.l.length=ds.length->y.keys.l.length=ds.length->
 ar 39 #[aw gp,.agg #[.slice x.row.A x.row.l.length x.row.c,.slice x.keys.A x.keys.l.length x.keys.c],.agg #[.slice y.row.A y.row.l.length y.row.c,.slice y.keys.A y.keys.l.length y.keys.c]] W λ e w'=>e=.returned (af (fZ x y))/\aj W w'
structure SS (w0:World) (g n:Nat) (w:World) (D:Nat->aP ds gp):Prop where
 at_:At w g n D
 grown:w0.grownBy w (some g)
 rows:∀k,k < n->RN w0 g (D k).row/\RN w0 g (D k).keys/\(D k).row.l.length<=1000/\(D k).keys.l.length=ds.length
 ord:afP ds gp w0 g
variable{w0:World}
theorem SS.later(h:SS w0 g n w D)(hb:aj w w'):SS w0 g n w' D:=⟨h.at_.later hb,aY h.grown (aR hb),h.rows,h.ord⟩
variable{W:World}
theorem SS.cmp(h:SS w0 g n w D)(i j:Nat)(hi:i < n)(hj:j < n)(hW:aj w W):
  ar 39 #[aw gp,.agg #[.slice (D i).row.A (D i).row.l.length (D i).row.c,.slice (D i).keys.A (D i).keys.l.length (D i).keys.c],.agg #[.slice (D j).row.A (D j).row.l.length (D j).row.c,.slice (D j).keys.A (D j).keys.l.length (D j).keys.c]] W λ e w'=>e=.returned (af (fZ (D i) (D j)))/\aj W w':=
 h.ord _ _ W (aY h.grown (aR hW)) (h.rows i hi).1 (h.rows i hi).2.1 (h.rows j hj).1 (h.rows j hj).2.1 (h.rows i hi).2.2.1 (h.rows j hj).2.2.1 (h.rows i hi).2.2.2 (h.rows j hj).2.2.2
theorem SS.swap(h:SS w0 g n w D)(i j:Nat)(hi:i < n)(hj:j < n):SS w0 g n (((((w.setCell ⟨g,i*2,none⟩ (D j).rv).setCell ⟨g,i*2+1,none⟩ (D j).kv).setCell ⟨g,j*2,none⟩ (D i).rv).setCell ⟨g,j*2+1,none⟩ (D i).kv).drew) (swp D i j):=by
 refine⟨h.at_.swap i j hi hj,lL (aC (aC (aC (aC h.grown _ _) _ _) _ _) _ _),λ k hk=>?_,h.ord⟩;unfold swp;split
 ·exact h.rows i hi
 ·split
  ·exact h.rows j hj
  ·exact h.rows k hk
theorem SS.second(h:SS w0 g n w D)(i j:Nat)(hi:i < n)(hj:j < n)(x:aP ds gp):(∃v,(w.setCell ⟨g,i*2,none⟩ x.rv).cell? ⟨g,i*2+1,none⟩=some v)/\(∃v,((w.setCell ⟨g,i*2,none⟩ x.rv).setCell ⟨g,i*2+1,none⟩ x.kv).cell? ⟨g,j*2,none⟩=some v)/\∃v,(((w.setCell ⟨g,i*2,none⟩ x.rv).setCell ⟨g,i*2+1,none⟩ x.kv).setCell ⟨g,j*2,none⟩ (D i).rv).cell? ⟨g,j*2+1,none⟩=some v:=by
 obtain⟨cs,h1,h2,h3⟩:=h.at_;have JY:∀(cs:Array Value) k,k < cs.size->∃v,cs[k]?=some v:=λ cs k hk=>⟨_,Array.getElem?_eq_getElem hk⟩
 refine⟨?_,?_,?_⟩
 ·rw[(h1.aU _ _).cell];exact JY _ _ Tab
 ·rw[((h1.aU _ _).aU _ _).cell];exact JY _ _ Tab
 ·rw[(((h1.aU _ _).aU _ _).aU _ _).cell];exact JY _ _ Tab
def jt (D:Nat->aP ds gp)(a b c:Nat):Nat->aP ds gp:=λ k=>if a<=k/\k < a+c then D (k - a+b)else if b<=k/\k < b+c then D (k - b+a)else D k
theorem De (D:Nat->aP ds gp)(a b:Nat):jt D a b 0=D:=by funext k;unfold jt;rw[if_neg WC,if_neg WC]
theorem Df (D:Nat->aP ds gp)(a b i:Nat)(h:a+i < b):swp (jt D a b i) (a+i) (b+i)=jt D a b (i+1):=by funext k;unfold swp jt;exact Zdm
def Bt (w0:World)(g n:Nat)(D:Nat->aP ds gp)(e:Ending)(w':World):Prop:=e=.returned (.tuple #[])/\SS w0 g n w' D
theorem nD (w0:World)(g n cap a b c:Nat)(D:Nat->aP ds gp)(w:World)(h:SS w0 g n w D)(hn:n<=1000)(hab:a+c<=b)(hb:b+c<=n):
  ar 195 #[aI g n cap,af a,af b,af c,.func (.func 39) #[aw gp] #[]] w (Bt w0 g n (jt D a b c)):=by
 have HS:=aa h;clear h;have mixed:Tryz.prog.follows .mixedOrders=true:=by kernel_rfl
 go_enter Tryz.func195,Tryz.ntmps195;go_wp2_with fail;go_loopw [10] (λ iv wr=>∃i:Nat,i<=c/\iv=af i/\SS w0 g n wr (jt D a b i)) (λ iv _=>c - (intOf iv).toNat);case atStart=>exact⟨0,Nat.zero_le _,rfl,by rw[De];exact HS.ae⟩
 case round=>
  obtain⟨i,hi,rfl,hf⟩:=hrel;have H2:=aa hf;clear hf;by_cases hlt:i < c
  ·have c1:=H2.ae.at_.cell (a+i) WC;have ly:=H2.ae.at_.dG (a+i) WC;have c2:=H2.ae.at_.cell (b+i) WC;have lz:=H2.ae.at_.dG (b+i) WC;have f1:=H2.ae.at_.frozen ((a+i)*2);have f1k:=H2.ae.at_.frozen ((a+i)*2+1);have f2:=H2.ae.at_.frozen ((b+i)*2);have f2k:=H2.ae.at_.frozen ((b+i)*2+1);obtain⟨⟨u1,c3⟩,⟨u2,c4⟩,⟨u3,c5⟩⟩:=H2.ae.second (a+i) (b+i) WC WC (jt D a b i (b+i));have S3:=aa (H2.ae.swap (a+i) (b+i) WC WC);simp only[aP.rv,aP.kv] at c3 c4 c5 S3;go_upto_region 3 with fail;go_big_region_o;clear c1 c2 ly lz c3 c4 c5 f1 f2 f1k f2k;rw[Df D a b i WC] at S3;generalize hW3:World.drew _=W3 at S3 ⊢;clear hW3;go_wp2_with fail;go_roundw;case rel=>exact⟨i+1,hlt,by go_num,S3.ae⟩
   case measure=>exact Za0
  ·have GH:i=c:=by omega
   subst GH;go_wp2_with fail;exact bodyPost_ret (v:=.tuple #[]) (by simp[results,Tryz.results195,go_sem]) rfl ⟨rfl,H2.ae⟩
def bc (D:Nat->aP ds gp)(s m e:Nat):Nat->aP ds gp:=λ k=>if s<=k/\k < e then(if k < s+(e - m)then D (k+(m - s))else D (k - (e - m)))else D k
theorem ML (D:Nat->aP ds gp)(m i j:Nat)(hi:i<=m)(nL:j < i):bc (jt D (m - i) m j) (m - (i - j)) m (m+j)=bc D (m - i) m (m+j):=by funext k;unfold bc jt;exact Zdm
theorem MM (D:Nat->aP ds gp)(m i j:Nat)(hi:i<=m)(nL:i < j):bc (jt D (m - i) (m+j - i) i) (m - i) m (m+(j - i))=bc D (m - i) m (m+j):=by funext k;unfold bc jt;exact Zdm
theorem MN (D:Nat->aP ds gp)(m i:Nat)(hi:i<=m):jt D (m - i) m i=bc D (m - i) m (m+i):=by funext k;unfold bc jt;exact Zdm
theorem gh (w0:World)(g n cap a m b:Nat)(D:Nat->aP ds gp)(w:World)(h:SS w0 g n w D)(hn:n<=1000)(O8:a < m)(O9:m < b)(hb:b<=n):
  ar 166 #[aI g n cap,af a,af m,af b,.func (.func 39) #[aw gp] #[]] w (Bt w0 g n (bc D a m b)):=by
 have HS:=aa h;clear h;go_enter Tryz.func166,Tryz.ntmps166;go_wp2_with fail;go_loopw [10,11] (λ iv jv wr=>∃(i j:Nat) (E:Nat->aP ds gp),0 < i/\0 < j/\a+i<=m/\m+j<=b/\iv=af i/\jv=af j/\SS w0 g n wr E/\bc E (m - i) m (m+j)=bc D a m b) (λ iv jv _=>(intOf iv).toNat+(intOf jv).toNat);case atStart=>refine⟨m - a,b - m,D,by omega,by omega,by omega,by omega,by go_num,by go_num,HS.ae,?_⟩;rw[show m - (m - a)=a by omega,show m+(b - m)=b by omega]
 case round=>
  obtain⟨i,j,E,kR,hj0,hi,hj,rfl,rfl,hs,hr⟩:=hrel;have H2:=aa hs;have HR:=aa hr;clear hs hr;by_cases heq:i=j
  ·subst heq;have t1:((i:Int) !=(i:Int))=false:=by simp
   have z1:(m:Int) - (i:Int)=((m - i:Nat):Int):=by omega
   go_wp2_with fail;refine(nD w0 g n cap (m - i) m i E wr H2.ae hn WC WC).mono ?_;rintro e_ w1 ⟨rfl,hs⟩;rw[MN E m i WC,HR.ae] at hs;have H3:=aa hs;clear hs H2 HR z1 t1;go_wp2_with fail;exact bodyPost_ret (v:=.tuple #[]) (by simp[results,Tryz.results166,go_sem]) rfl ⟨rfl,H3.ae⟩
  ·have t1:((i:Int) !=(j:Int))=true:=by simp;omega
   have z1:(m:Int) - (i:Int)=((m - i:Nat):Int):=by omega
   by_cases hlt:j < i
   ·have t2:decide ((j:Int)<(i:Int))=true:=by simp;omega
    go_wp2_with fail;refine(nD w0 g n cap (m - i) m j E wr H2.ae hn WC WC).mono ?_;rintro e_ w1 ⟨rfl,hs⟩;have H3:=aa hs;have HR3:=aa ((ML E m i j WC hlt).trans HR.ae);clear hs H2 HR z1 t1;go_wp2_with fail;go_roundw;case rel=>exact⟨i - j,j,_,by omega,by omega,by omega,by omega,by go_num,rfl,H3.ae,HR3.ae⟩
    case measure=>exact Za0
   ·have t2:decide ((j:Int)<(i:Int))=false:=by simp;omega
    have z2:(m:Int)+(j:Int) - (i:Int)=((m+j - i:Nat):Int):=by omega
    go_wp2_with fail;refine(nD w0 g n cap (m - i) (m+j - i) i E wr H2.ae hn WC WC).mono ?_;rintro e_ w1 ⟨rfl,hs⟩;have H3:=aa hs;have HR3:=aa ((MM E m i j WC WC).trans HR.ae);clear hs H2 HR z1 t1 z2;go_wp2_with fail;go_roundw;case rel=>exact⟨i,j - i,_,by omega,by omega,by omega,by omega,rfl,by go_num,H3.ae,HR3.ae⟩
    case measure=>exact Za0
def lt (x y:aP ds gp):Prop:=fZ x y < 0
def le (x y:aP ds gp):Prop:=fZ x y<=0
theorem le_refl (x:aP ds gp):le x x:=by unfold le;rw[VS];omega
variable{x y z:aP ds gp}
theorem le_trans(h:le x y)(k:le y z):le x z:=QF _ _ _ h k
theorem le_of_lt(h:lt x y):le x y:=by unfold lt at h;unfold le;omega
theorem not_lt:¬lt x y↔le y x:=by unfold lt le;have:=GG x y;omega
theorem ze(h:le x y)(k:lt y z):lt x z:=by
 refine Classical.byContradiction λ e=>?_
 have:=le_trans (not_lt.1 e) h;exact(not_lt.2 this) k
theorem zg(h:lt x y)(k:le y z):lt x z:=by
 refine Classical.byContradiction λ e=>?_
 have:=le_trans k (not_lt.1 e);exact(not_lt.2 this) h
def cD (D:Nat->aP ds gp)(a b:Nat):Prop:=∀i j,a<=i->i < j->j < b->le (D i) (D j)
variable{a b a' b':Nat}
theorem cD.mono(h:cD D a b)(h1:a<=a')(h2:b'<=b):cD D a' b':=λ i j hi hj hb=>h i j WC hj WC
variable{E:Nat->aP ds gp}
theorem cD.congr(h:cD D a b)(he:∀i,a<=i->i < b->E i=D i):cD E a b:=λ i j hi hj hb=>by rw[he i hi WC,he j WC hb];exact h i j hi hj hb
variable{i j:Nat}
theorem cD.le(h:cD D a b)(hi:a<=i)(nL:i<=j)(hj:j < b):le (D i) (D j):=by
 rcases Nat.lt_or_ge i j with h1 | h1
 ·exact h i j hi h1 hj
 ·rw[show i=j by omega];exact le_refl _
theorem cD.none(h:b<=a+1):cD D a b:=λ i j hi hj hb=>by omega
inductive Sw (a b:Nat) (D:Nat->aP ds gp):(Nat->aP ds gp)->Prop
 | refl:Sw a b D D
 | step {E:Nat->aP ds gp} {i j:Nat}:Sw a b D E->a<=i->i < b->a<=j->j < b->Sw a b D (swp E i j)
variable{F:Nat->aP ds gp}
theorem Sw.trans(h:Sw a b D E)(k:Sw a b E F):Sw a b D F:=by
 induction k with
 | refl=>exact h
 | step _ h1 h2 h3 h4 ih=>exact .step ih h1 h2 h3 h4
theorem Sw.mono(h:Sw a b D E)(h1:a'<=a)(h2:b<=b'):Sw a' b' D E:=by
 induction h with
 | refl=>exact .refl
 | step _ k1 k2 k3 k4 ih=>exact .step ih WC WC WC WC
theorem Sw.ae(h:Sw a b D E):∀k,k < a\/b<=k->E k=D k:=by
 induction h with
 | refl=>exact λ _ _=>rfl
 | step _ k1 k2 k3 k4 ih=>intro k hk;unfold swp;rw[if_neg WC,if_neg WC];exact ih k hk
theorem Sw.mem(h:Sw a b D E):∀k,a<=k->k < b->∃k',a<=k'/\k' < b/\E k=D k':=by
 induction h with
 | refl=>exact λ k h1 h2=>⟨k,h1,h2,rfl⟩
 | step _ k1 k2 k3 k4 ih=>
   intro k h1 h2;unfold swp;split
   ·exact ih _ k1 k2
   ·split
    ·exact ih _ k3 k4
    ·exact ih k h1 h2
theorem P0 (D:Nat->aP ds gp)(n i j:Nat)(hi:i < n)(hj:j < n):((List.range n).map (swp D i j)).Perm ((List.range n).map D):=by
 have hp:=Array.swap_perm (xs:=((List.range n).map D).toArray) (i:=i) (j:=j) TaD (by simpa using hj)
 have e:((List.range n).map (swp D i j)).toArray=((List.range n).map D).toArray.swap i j TaD (by simpa using hj):=by
  apply Array.ext
  ·simp
  ·intro k h1 h2;have hk:k < n:=by simpa using h1
   rw[Array.getElem_swap];simp only[getElem_toArray,getElem_map,getElem_range];unfold swp;exact ZeC
 have:=e▸hp;exact Array.perm_iff_toList_perm.1 this
theorem Sw.perm(h:Sw a b D E)(hb:b<=n):((List.range n).map E).Perm ((List.range n).map D):=by
 induction h with
 | refl=>exact .refl _
 | step _ k1 k2 k3 k4 ih=>exact(P0 _ n _ _ WC WC).trans ih
theorem wI (D:Nat->aP ds gp)(a b:Nat):∀c,a+c<=b->Sw a (b+c) D (jt D a b c)
 | 0,_=>by rw[De];exact .refl
 | c+1,h=>by rw[<- Df D a b c WC];exact .step ((wI D a b c WC).mono (Nat.le_refl _) WC) WC WC WC WC
theorem aiK (D:Nat->aP ds gp)(m:Nat):∀N i j,i+j<=N->0 < i->0 < j->i<=m->Sw (m - i) (m+j) D (bc D (m - i) m (m+j)):=by
 intro N
 induction N generalizing D with
 | zero=>intro i j h h0 h1;omega
 | succ N ih=>
   intro i j h h0 h1 Rp;rcases Nat.lt_trichotomy i j with h2 | h2 | h2
   ·have h3:=ih (jt D (m - i) (m+j - i) i) i (j - i) WC h0 WC Rp;rw[MM D m i j Rp h2] at h3;exact((wI D (m - i) (m+j - i) i WC).mono (Nat.le_refl _) WC).trans (h3.mono (Nat.le_refl _) WC)
   ·subst h2;rw[<- MN D m i Rp];exact wI D (m - i) m i WC
   ·have h3:=ih (jt D (m - i) m j) (i - j) j WC WC h1 WC;rw[ML D m i j Rp h2] at h3;exact((wI D (m - i) m j WC).mono (Nat.le_refl _) WC).trans (h3.mono WC (Nat.le_refl _))
theorem nc (D:Nat->aP ds gp)(s m e:Nat)(h1:s < m)(h2:m < e):Sw s e D (bc D s m e):=by have:=aiK D m (m - s+(e - m)) (m - s) (e - m) (Nat.le_refl _) WC WC WC;rwa [show m - (m - s)=s by omega,show m+(e - m)=e by omega] at this
theorem yj (D:Nat->aP ds gp)(m e:Nat):bc D m m e=D:=by exact Zf3
theorem uH (D:Nat->aP ds gp)(s m:Nat):bc D s m m=D:=by exact Zf3
def Ins (E:Nat->aP ds gp)(a i j:Nat):Prop:=(∀p q,a<=p->p < q->q<=i->p≠j->q≠j->le (E p) (E q))/\∀q,j < q->q<=i->le (E j) (E q)
theorem Ins.start(h:cD D a i):Ins D a i i:=⟨λ p q h1 h2 h3 h4 h5=>h p q h1 h2 WC,λ q h1 h2=>by omega⟩
theorem Ins.step(h:Ins E a i j)(hj:a < j)(Xk:j<=i)(hl:lt (E j) (E (j - 1))):Ins (swp E j (j - 1)) a i (j - 1):=by
 constructor
 ·intro p q h1 h2 h3 h4 h5;unfold swp;rw[if_neg h4,if_neg h5];by_cases e1:p=j
  ·subst e1;rw[if_pos rfl,if_neg WC];exact h.1 (p - 1) q WC WC h3 WC WC
  ·rw[if_neg e1];by_cases e2:q=j
   ·subst e2;rw[if_pos rfl];exact h.1 p (q - 1) h1 WC WC e1 WC
   ·rw[if_neg e2];exact h.1 p q h1 h2 h3 e1 e2
 ·intro q h1 h2;unfold swp;rw[if_pos rfl,if_neg WC];by_cases e2:q=j
  ·subst e2;rw[if_pos rfl];exact le_of_lt hl
  ·rw[if_neg e2];exact h.2 q WC h2
theorem Ins.stop(h:Ins E a i j)(hj:a<=j)(hs:j=a\/¬lt (E j) (E (j - 1))):cD E a (i+1):=by
 intro p q h1 h2 h3;by_cases e1:p=j
 ·subst e1;exact h.2 q h2 WC
 ·by_cases e2:q=j
  ·subst e2;rcases hs with hs | hs
   ·omega
   ·have h4:=not_lt.1 hs;by_cases e3:p=q - 1
    ·rw[e3];exact h4
    ·exact le_trans (h.1 p (q - 1) h1 WC WC e1 WC) h4
  ·exact h.1 p q h1 h2 WC e1 e2
def zD (D:Nat->aP ds gp)(a k:Nat):Nat->aP ds gp:=λ x=>if a<=x/\x < k then D (x+1)else if x=k then D a else D x
theorem GI (D:Nat->aP ds gp)(a:Nat):zD D a a=D:=by funext x;unfold zD;exact ZeC
theorem GJ (D:Nat->aP ds gp)(a k:Nat)(h:a<=k):swp (zD D a k) k (k+1)=zD D a (k+1):=by funext x;unfold swp zD;exact Zf0
theorem Ti (D:Nat->aP ds gp)(a:Nat):∀d,Sw a (a+d+1) D (zD D a (a+d))
 | 0=>by show Sw a (a+0+1) D (zD D a a);rw[GI];exact .refl
 | d+1=>by rw[show a+(d+1)=a+d+1 by omega,<- GJ D a (a+d) WC];exact .step ((Ti D a d).mono (Nat.le_refl _) WC) WC WC WC WC
theorem P3(hs:cD D (a+1) b)(hi:a+1<=i)(hib:i<=b)(h1:∀h,a+1<=h->h < i->lt (D h) (D a))(h2:∀h,i<=h->h < b->¬lt (D h) (D a)):cD (zD D a (i - 1)) a b:=by
 intro p q hp Y7 hq;unfold zD;by_cases c1:a<=p/\p < i - 1
 ·rw[if_pos c1];by_cases c2:a<=q/\q < i - 1
  ·rw[if_pos c2];exact hs (p+1) (q+1) WC WC WC
  ·rw[if_neg c2];by_cases c3:q=i - 1
   ·rw[if_pos c3];exact le_of_lt (h1 (p+1) WC WC)
   ·rw[if_neg c3];exact hs.le WC WC hq
 ·rw[if_neg c1];have c2:¬(a<=q/\q < i - 1):=by omega
  rw[if_neg c2];have c3:q≠i - 1:=by omega
  rw[if_neg c3];by_cases c4:p=i - 1
  ·rw[if_pos c4];exact not_lt.1 (h2 q WC hq)
  ·rw[if_neg c4];exact hs p q WC Y7 hq
def Bu (D:Nat->aP ds gp)(k m:Nat):Nat->aP ds gp:=λ x=>if x=k then D m else if k < x/\x<=m then D (x - 1)else D x
theorem GK (D:Nat->aP ds gp)(m:Nat):Bu D m m=D:=by funext x;unfold Bu;exact ZeC
theorem GL (D:Nat->aP ds gp)(k m:Nat)(h0:0 < k)(h:k<=m):swp (Bu D k m) k (k - 1)=Bu D (k - 1) m:=by funext x;unfold swp Bu;exact Zf0
theorem Tj (D:Nat->aP ds gp)(m:Nat):∀d,d<=m->Sw (m - d) (m+1) D (Bu D (m - d) m)
 | 0,_=>by rw[Nat.sub_zero,GK];exact .refl
 | d+1,h=>by rw[show m - (d+1)=m - d - 1 by omega,<- GL D (m - d) m WC WC];exact .step ((Tj D m d WC).mono WC (Nat.le_refl _)) WC WC WC WC
variable{m:Nat}
theorem P5(hs:cD D a m)(hi:a<=i)(Rp:i<=m)(h1:∀h,a<=h->h < i->¬lt (D m) (D h))(h2:∀h,i<=h->h < m->lt (D m) (D h)):cD (Bu D i m) a (m+1):=by
 intro p q hp Y7 hq;unfold Bu;by_cases c1:p=i
 ·rw[if_pos c1,if_neg WC,if_pos WC];exact le_of_lt (h2 (q - 1) WC WC)
 ·rw[if_neg c1];by_cases c2:i < p/\p<=m
  ·rw[if_pos c2,if_neg WC,if_pos WC];exact hs.le WC WC WC
  ·rw[if_neg c2];by_cases c3:q=i
   ·rw[if_pos c3];exact not_lt.1 (h1 p hp WC)
   ·rw[if_neg c3];by_cases c4:i < q/\q<=m
    ·rw[if_pos c4];exact hs.le hp WC WC
    ·rw[if_neg c4];exact hs p q hp Y7 WC
structure Found (D:Nat->aP ds gp) (p s0 r0 s r:Nat):Prop where
 low:∀c,s0<=c->c < s->¬lt (D (p - c)) (D c)
 high:∀c,r<=c->c < r0->lt (D (p - c)) (D c)
structure yF (a m b mid s0 r0:Nat):Prop where
 ab:a < m/\m < b
 asM:mid=(a+b)/ 2
 ends:(m > mid/\s0=mid+m - b/\r0=mid)\/(m<=mid/\s0=a/\r0=m)
variable{mid s0 r0 r c:Nat}
theorem Found.go{s:Nat}(he:yF a m b mid s0 r0)(h1:cD D a m)(h2:cD D m b)(h:Found D (mid+m - 1) s0 r0 s r)(hs:s0<=s)(hr:r<=r0)(hc:s<=c)(hc2:c < r):
  (¬lt (D (mid+m - 1 - c)) (D c)->Found D (mid+m - 1) s0 r0 (c+1) r)/\(lt (D (mid+m - 1 - c)) (D c)->Found D (mid+m - 1) s0 r0 s c):=by
 obtain⟨⟨e1,e2⟩,rfl,e3⟩:=he;constructor
 ·intro hn;refine⟨λ d hd SX=>?_,h.high⟩;have a1:le (D d) (D c):=h1.le WC WC WC;have a2:le (D ((a+b)/ 2+m - 1 - c)) (D ((a+b)/ 2+m - 1 - d)):=h2.le WC WC WC;exact not_lt.2 (le_trans (le_trans a1 (not_lt.1 hn)) a2)
 ·intro hl;refine⟨h.low,λ d hd SX=>?_⟩;have a1:le (D c) (D d):=h1.le WC WC WC;have a2:le (D ((a+b)/ 2+m - 1 - d)) (D ((a+b)/ 2+m - 1 - c)):=h2.le WC WC WC;exact zg (ze a2 hl) a1
theorem VT{s:Nat}(he:yF a m b mid s0 r0)(h1:cD D a m)(h2:cD D m b)(h:Found D (mid+m - 1) s0 r0 s s)(hs:s0<=s)(hr:s<=r0):
  cD (bc D s m (mid+m - s)) a s/\cD (bc D s m (mid+m - s)) s mid/\cD (bc D s m (mid+m - s)) mid (mid+m - s)/\cD (bc D s m (mid+m - s)) (mid+m - s) b/\
  ∀x y,a<=x->x < mid->mid<=y->y < b->le (bc D s m (mid+m - s) x) (bc D s m (mid+m - s) y):=by
 obtain⟨⟨e1,e2⟩,e0,e3⟩:=he;have b1:a<=s/\s<=m/\s<=mid:=by omega
 have b2:m<=mid+m - s/\mid+m - s<=b:=by omega
 obtain⟨f,hf⟩:∃f,f=mid+m - s:=⟨_,rfl⟩;rw[<- hf] at b2 ⊢;have r1:∀x,x < s->bc D s m f x=D x:=λ x hx=>by unfold bc;rw[if_neg WC]
 have r2:∀x,s<=x->x < mid->bc D s m f x=D (x+(m - s)):=λ x hx hx2=>by unfold bc;rw[if_pos WC,if_pos WC]
 have r3:∀x,mid<=x->x < f->bc D s m f x=D (x - (f - m)):=λ x hx hx2=>by unfold bc;rw[if_pos WC,if_neg WC]
 have r4:∀x,f<=x->bc D s m f x=D x:=λ x hx=>by unfold bc;rw[if_neg WC]
 refine⟨λ i j hi hj hb=>?_,λ i j hi hj hb=>?_,λ i j hi hj hb=>?_,λ i j hi hj hb=>?_,λ x y hx hx2 hy fP=>?_⟩
 ·rw[r1 i WC,r1 j hb];exact h1 i j hi hj WC
 ·rw[r2 i hi WC,r2 j WC hb];exact h2 _ _ WC WC WC
 ·rw[r3 i hi WC,r3 j WC hb];exact h1 _ _ WC WC WC
 ·rw[r4 i hi,r4 j WC];exact h2 _ _ WC hj hb
 ·by_cases c1:x < s
  ·rw[r1 x c1];by_cases c2:y < f
   ·rw[r3 y hy c2];exact h1.le hx WC WC
   ·rw[r4 y WC];have h3:=h.low (s - 1) WC WC;have h4:=not_lt.1 h3;rw[show mid+m - 1 - (s - 1)=f by omega] at h4;exact le_trans (h1.le hx (show x<=s - 1 by omega) WC) (le_trans h4 (h2.le WC WC fP))
  ·rw[r2 x WC hx2];by_cases c2:y < f
   ·rw[r3 y hy c2];have h3:=h.high s (Nat.le_refl _) WC;rw[show mid+m - 1 - s=f - 1 by omega] at h3;exact le_trans (h2.le WC (show x+(m - s)<=f - 1 by omega) WC) (le_trans (le_of_lt h3) (h1.le WC WC WC))
   ·rw[r4 y WC];exact h2.le WC WC fP
theorem jh(hm:a<=mid/\mid<=b)(h:∀x y,a<=x->x < mid->mid<=y->y < b->le (D x) (D y))(k1:Sw a mid D E)(k2:Sw mid b E F)(s1:cD E a mid)(s2:cD F mid b):cD F a b/\Sw a b D F:=by
 refine⟨λ i j hi hj hb=>?_,(k1.mono (Nat.le_refl _) hm.2).trans (k2.mono hm.1 (Nat.le_refl _))⟩;by_cases c1:j < mid
 ·rw[k2.ae i (.inl WC),k2.ae j (.inl c1)];exact s1 i j hi hj c1
 ·by_cases c2:mid<=i
  ·exact s2 i j c2 hj hb
  ·rw[k2.ae i (.inl WC)];obtain⟨i',h1,h2,h3⟩:=k1.mem i hi WC;obtain⟨j',h4,h5,h6⟩:=k2.mem j WC hb;rw[h3,h6,k1.ae j' (.inr h4)];exact h i' j' h1 h2 h4 h5
def br (w0:World)(g n a b:Nat)(D:Nat->aP ds gp)(e:Ending)(w':World):Prop:=e=.returned (.tuple #[])/\∃E,SS w0 g n w' E/\Sw a b D E/\cD E a b
theorem za9.Kae(h:p:=by
 have c1:=H3.ae.at_.cell (m+1) WC;have ly:=H3.ae.at_.dG (m+1) WC;have c2:=H3.ae.at_.cell m WC;have lz:=H3.ae.at_.dG m WC;have f1:=H3.ae.at_.frozen ((m+1)*2);have f1k:=H3.ae.at_.frozen ((m+1)*2+1);have f2:=H3.ae.at_.frozen (m*2);have f2k:=H3.ae.at_.frozen (m*2+1);obtain⟨⟨u1,c3⟩,⟨u2,c4⟩,⟨u3,c5⟩⟩:=H3.ae.second (m+1) m WC WC (E m);have S3:=aa (H3.ae.swap (m+1) m WC WC);simp only[aP.rv,aP.kv] at c3 c4 c5 S3;go_upto_region 6 with fail;go_big_region_o;clear c1 c2 ly lz c3 c4 c5 f1 f2 f1k f2k;generalize hW3:World.drew _=W3 at S3 ⊢;clear hW3;have SI:=aa (HO.ae.step hja hj (by simpa using HL.ae));have SW:=aa (Sw.step (i:=m+1) (j:=m) HW.ae WC WC WC WC);clear HO HW HL;go_wp2_with fail;go_roundw;case rel=>exact⟨m,_,by omega,by omega,by go_num,S3.ae,SW.ae,SI.ae⟩
 case measure=>simp[intOf]):p:=h
theorem zba.Kae(h:p:=by have SO:=aa (HO.ae.stop hj0 (.inr (by simpa using HL.ae)));exact ZeQ):p:=h
theorem ze6.Ka8(h:p:=by clear fP y2;have H3:=aa (H2.ae.later hL);clear H2 hL;exact ZeQ):p:=h
theorem tK (w0:World)(g n cap a b:Nat)(D:Nat->aP ds gp)(w:World)(h:SS w0 g n w D)(hn:n<=1000)(hab:a<=b)(hb:b<=n):
  ar 105 #[aI g n cap,af a,af b,.func (.func 39) #[aw gp] #[]] w (br w0 g n a b D):=by
 have HS:=aa h;have mixed:Tryz.prog.follows .mixedOrders=true:=by kernel_rfl
 clear h;go_enter Tryz.func105,Tryz.ntmps105;go_wp2_with fail;go_loopw [8] (λ iv wr=>∃(i:Nat) (Kx:Nat->aP ds gp),a < i/\(i<=b\/i=a+1)/\iv=af i/\SS w0 g n wr Kx/\Sw a b D Kx/\cD Kx a i) (λ iv _=>b - (intOf iv).toNat);case atStart=>exact⟨a+1,D,by omega,.inr rfl,by go_num,HS.ae,.refl,.none WC⟩
 case round=>
  clear HS;obtain⟨i,Kx,kR,hi,rfl,q4,q5,Au⟩:=hrel;have H2:=aa q4;have HW:=aa q5;have HO:=aa Au;clear q4 q5 Au;by_cases hlt:i < b
  ·go_wp2_with fail;go_loopw [9] (λ jv wr2=>∃(j:Nat) (E:Nat->aP ds gp),a<=j/\j<=i/\jv=af j/\SS w0 g n wr2 E/\Sw a b D E/\Ins E a i j) (λ jv _=>(intOf jv).toNat);case atStart=>exact⟨i,Kx,by omega,Nat.le_refl _,rfl,H2.ae,HW.ae,.start HO.ae⟩
   case round=>
    clear H2 HW HO;obtain⟨j,E,hj0,hj,rfl,q4,q5,Au⟩:=hrel;have H2:=aa q4;have HW:=aa q5;have HO:=aa Au;clear q4 q5 Au;by_cases hja:a < j
    ·obtain⟨m,rfl⟩:∃q,j=q+1:=⟨j - 1,by omega⟩;have t1:decide ((a:Int)<(m:Int)+1)=true:=decide_eq_true WC;have t1':decide ((a:Int)<((m+1:Nat):Int))=true:=decide_eq_true WC;go_upto_region 4 with fail;have c1:=λ q:Ext wr.heap.size wr=>(H2.ae.at_.later q.h).cell (m+1) WC
     have ly:=λ q:Ext wr.heap.size wr=>(H2.ae.at_.later q.h).dG (m+1) WC
     have c2:=λ q:Ext wr.heap.size wr=>(H2.ae.at_.later q.h).cell m WC
     have lz:=λ q:Ext wr.heap.size wr=>(H2.ae.at_.later q.h).dG m WC
     have hc:=λ q:Ext wr.heap.size wr=>H2.ae.cmp (m+1) m WC WC q.h
     by_cases hl:fZ (E (m+1)) (E m)< 0
     ·have t2:=decide_eq_true hl;have HL:=aa (show lt (E (m+1)) (E m)from hl);clear hl;refine aM 17 wr.heap.size wr (Below.refl _ _) Va Va Va Va ?_;open za9 in exact Zau
     ·have t2:=decide_eq_false hl;have HL:=aa (show¬lt (E (m+1)) (E m)from hl);clear hl;refine aM 17 wr.heap.size wr (Below.refl _ _) Va Va Va Va ?_;open zba in exact Zau
    ·have t1:decide ((a:Int)<(j:Int))=false:=decide_eq_false WC;have SO:=aa (HO.ae.stop hj0 (.inl WC));go_upto_region 4 with fail;refine aM 17 wr.heap.size wr (Below.refl _ _) Va Va Va Va ?_;simp only[List.append,Uab];open ze6 in exact ZcU
  ·have HE:=aa (HO.ae.mono (Nat.le_refl a) (show b<=i by omega));go_wp2_with fail;exact bodyPost_ret (v:=.tuple #[]) Tbj rfl ⟨rfl,Kx,H2.ae,HW.ae,HE.ae⟩
theorem zbb.Kae(h:p:=by have AD:=aa (show∀h,a+1<=h->h < m+1->lt (D h) (D a)from λ h h1 h2=>ze (Q5.ae.le h1 (show h<=m by omega) WC) HX.ae);exact Zd0):p:=h
theorem zbc.Kae(h:p:=by have HH2:=aa (show∀h,m<=h->h < b->¬lt (D h) (D a)from λ h h1 h2=>not_lt.2 (le_trans (not_lt.1 HX.ae) (Q5.ae.le WC h1 h2)));exact Zex):p:=h
theorem zeg.KaQ(h:p:=by
 have c1:=λ q:Ext wr.heap.size wr=>(H2.ae.at_.later q.h).cell (m) WC
 have ly:=λ q:Ext wr.heap.size wr=>(H2.ae.at_.later q.h).dG (m) WC
 have c2:=λ q:Ext wr.heap.size wr=>(H2.ae.at_.later q.h).cell (a) WC
 have lz:=λ q:Ext wr.heap.size wr=>(H2.ae.at_.later q.h).dG (a) WC
 have hc:=λ q:Ext wr.heap.size wr=>H2.ae.cmp (m) (a) WC WC q.h
 by_cases hl:fZ (D (m)) (D (a))< 0
 ·have t2:=decide_eq_true hl;have HX:=aa (show lt (D (m)) (D (a))from hl);clear hl;refine aM 11 wr.heap.size wr (Below.refl _ _) Va Va Va Va ?_;open zbb in exact Zau
 ·have t2:=decide_eq_false hl;have HX:=aa (show¬lt (D (m)) (D (a))from hl);clear hl;refine aM 11 wr.heap.size wr (Below.refl _ _) Va Va Va Va ?_;open zbc in exact Zau):p:=h
theorem adq (w0:World)(g n cap a b:Nat)(D:Nat->aP ds gp)(w:World)(h:SS w0 g n w D)(hn:n<=1000)(hab:a+1 < b)(hb:b<=n)(q5:cD D (a+1) b):
  ar 106 #[aI g n cap,af a,af (a+1),af b,.func (.func 39) #[aw gp] #[]] w (br w0 g n a b D):=by
 have HS:=aa h;have Q5:=aa q5;have mixed:Tryz.prog.follows .mixedOrders=true:=by kernel_rfl
 clear h q5;have t1:((a:Int)+1 - (a:Int)==1)=true:=by simp;omega
 go_enter Tryz.func106,Tryz.ntmps106;go_wp2_with fail;clear t1;go_loopw [10,11] (λ iv jv wr=>∃i j:Nat,a+1<=i/\i<=j/\j<=b/\iv=af i/\jv=af j/\SS w0 g n wr D/\(∀h,a+1<=h->h < i->lt (D h) (D a))/\∀h,j<=h->h < b->¬lt (D h) (D a)) (λ iv jv _=>(intOf jv).toNat - (intOf iv).toNat);case atStart=>exact⟨a+1,b,by omega,by omega,by omega,by go_num,rfl,HS.ae,λ h h1 h2=>by omega,λ h h1 h2=>by omega⟩
 case round=>
  clear HS;obtain⟨i,j,hi,nL,hj,rfl,rfl,hs,hl,hh⟩:=hrel;have H2:=aa hs;have HL:=aa hl;have HH:=aa hh;clear hs hl hh;by_cases hlt:i < j
  ·go_upto_region 5 with fail;open zeg in exact Zcg
  ·have F3:j=i:=by omega
   subst F3;have HF:=aa (P3 Q5.ae hi hj HL.ae HH.ae);have HW:=aa ((Ti D a (j - 1 - a)).mono (Nat.le_refl _) (show a+(j - 1 - a)+1<=b by omega));rw[show a+(j - 1 - a)=j - 1 by omega] at HW;clear HL HH Q5 hlt nL;have zj:(j:Int) - 1=((j - 1:Nat):Int):=by omega
   go_wp2_with fail;go_loopw [13] (λ kv wr2=>∃k:Nat,a<=k/\k<=j - 1/\kv=af k/\SS w0 g n wr2 (zD D a k)) (λ kv _=>j - (intOf kv).toNat);case atStart=>exact⟨a,Nat.le_refl _,by omega,rfl,by rw[GI];exact H2.ae⟩
   case round=>
    clear H2;obtain⟨k,hk0,hk,rfl,hs⟩:=hrel;have H2:=aa hs;clear hs;by_cases hlt:k < j - 1
    ·have t2:decide ((k:Int)<((j - 1:Nat):Int))=true:=decide_eq_true WC;have c1:=H2.ae.at_.cell (k) WC;have ly:=H2.ae.at_.dG (k) WC;have c2:=H2.ae.at_.cell (k+1) WC;have lz:=H2.ae.at_.dG (k+1) WC;have f1:=H2.ae.at_.frozen ((k)*2);have f1k:=H2.ae.at_.frozen ((k)*2+1);have f2:=H2.ae.at_.frozen ((k+1)*2);have f2k:=H2.ae.at_.frozen ((k+1)*2+1);obtain⟨⟨u1,c3⟩,⟨u2,c4⟩,⟨u3,c5⟩⟩:=H2.ae.second (k) (k+1) WC WC (zD D a k (k+1));have S3:=aa (H2.ae.swap (k) (k+1) WC WC);simp only[aP.rv,aP.kv] at c3 c4 c5 S3;go_upto_region 11 with fail;go_big_region_o;clear c1 c2 ly lz c3 c4 c5 f1 f2 f1k f2k;rw[GJ D a k hk0] at S3;generalize hW3:World.drew _=W3 at S3 ⊢;clear hW3;go_wp2_with fail;go_roundw;case rel=>exact⟨k+1,by omega,by omega,by go_num,S3.ae⟩
     case measure=>first |(simp[intOf];done)|(simp[intOf];omega)
    ·have t2:decide ((k:Int)<((j - 1:Nat):Int))=false:=decide_eq_false WC;have GH:k=j - 1:=by omega
     exact ZeE
theorem zbd.Kae(h:p:=by have HH2:=aa (show∀h,m<=h->h < Kx->lt (D Kx) (D h)from λ h h1 h2=>zg HX.ae (Q5.ae.le WC h1 h2));exact Zex):p:=h
theorem zbe.Kae(h:p:=by have AD:=aa (show∀h,a<=h->h < m+1->¬lt (D Kx) (D h)from λ h h1 h2=>not_lt.2 (le_trans (Q5.ae.le h1 (show h<=m by omega) WC) (not_lt.1 HX.ae)));exact Zd0):p:=h
theorem zeh.KaQ(h:p:=by
 have c1:=λ q:Ext wr.heap.size wr=>(H2.ae.at_.later q.h).cell (Kx) WC
 have ly:=λ q:Ext wr.heap.size wr=>(H2.ae.at_.later q.h).dG (Kx) WC
 have c2:=λ q:Ext wr.heap.size wr=>(H2.ae.at_.later q.h).cell (m) WC
 have lz:=λ q:Ext wr.heap.size wr=>(H2.ae.at_.later q.h).dG (m) WC
 have hc:=λ q:Ext wr.heap.size wr=>H2.ae.cmp (Kx) (m) WC WC q.h
 by_cases hl:fZ (D (Kx)) (D (m))< 0
 ·have t2:=decide_eq_true hl;have HX:=aa (show lt (D (Kx)) (D (m))from hl);clear hl;refine aM 12 wr.heap.size wr (Below.refl _ _) Va Va Va Va ?_;open zbd in exact Zau
 ·have t2:=decide_eq_false hl;have HX:=aa (show¬lt (D (Kx)) (D (m))from hl);clear hl;refine aM 12 wr.heap.size wr (Below.refl _ _) Va Va Va Va ?_;open zbe in exact Zau):p:=h
theorem adr (w0:World)(g n cap a Kx:Nat)(D:Nat->aP ds gp)(w:World)(h:SS w0 g n w D)(hn:n<=1000)(hab:a+1 < Kx)(hb:Kx+1<=n)(q5:cD D a Kx):
  ar 106 #[aI g n cap,af a,af Kx,af (Kx+1),.func (.func 39) #[aw gp] #[]] w (br w0 g n a (Kx+1) D):=by
 have HS:=aa h;have Q5:=aa q5;have mixed:Tryz.prog.follows .mixedOrders=true:=by kernel_rfl
 clear h q5;have t0:((Kx:Int) - (a:Int)==1)=false:=by simp;omega
 have t1:((Kx:Int)+1 - (Kx:Int)==1)=true:=by simp;omega
 go_enter Tryz.func106,Tryz.ntmps106;go_wp2_with fail;clear t0 t1;go_loopw [14,15] (λ iv jv wr=>∃i j:Nat,a<=i/\i<=j/\j<=Kx/\iv=af i/\jv=af j/\SS w0 g n wr D/\(∀h,a<=h->h < i->¬lt (D Kx) (D h))/\∀h,j<=h->h < Kx->lt (D Kx) (D h)) (λ iv jv _=>(intOf jv).toNat - (intOf iv).toNat);case atStart=>exact⟨a,Kx,by omega,by omega,by omega,rfl,rfl,HS.ae,λ h h1 h2=>by omega,λ h h1 h2=>by omega⟩
 case round=>
  clear HS;obtain⟨i,j,hi,nL,hj,rfl,rfl,hs,hl,hh⟩:=hrel;have H2:=aa hs;have HL:=aa hl;have HH:=aa hh;clear hs hl hh;by_cases hlt:i < j
  ·go_upto_region 17 with fail;open zeh in exact Zcg
  ·have F3:j=i:=by omega
   subst F3;have HF:=aa (P5 Q5.ae hi hj HL.ae HH.ae);have HW:=aa ((Tj D Kx (Kx - j) WC).mono (show a<=Kx - (Kx - j) by omega) (Nat.le_refl _));rw[show Kx - (Kx - j)=j by omega] at HW;clear HL HH Q5 hlt nL;go_wp2_with fail;go_loopw [17] (λ kv wr2=>∃k:Nat,j<=k/\k<=Kx/\kv=af k/\SS w0 g n wr2 (Bu D k Kx)) (λ kv _=>(intOf kv).toNat);case atStart=>exact⟨Kx,by omega,by omega,rfl,by rw[GK];exact H2.ae⟩
   case round=>
    clear H2;obtain⟨k,hk0,hk,rfl,hs⟩:=hrel;have H2:=aa hs;clear hs;by_cases hlt:j < k
    ·obtain⟨kp,rfl⟩:∃q,k=q+1:=⟨k - 1,by omega⟩;have t2:decide ((j:Int)<(kp:Int)+1)=true:=decide_eq_true WC;have t2':decide ((j:Int)<((kp+1:Nat):Int))=true:=decide_eq_true WC;have c1:=H2.ae.at_.cell (kp+1) WC;have ly:=H2.ae.at_.dG (kp+1) WC;have c2:=H2.ae.at_.cell (kp) WC;have lz:=H2.ae.at_.dG (kp) WC;have f1:=H2.ae.at_.frozen ((kp+1)*2);have f1k:=H2.ae.at_.frozen ((kp+1)*2+1);have f2:=H2.ae.at_.frozen ((kp)*2);have f2k:=H2.ae.at_.frozen ((kp)*2+1);obtain⟨⟨u1,c3⟩,⟨u2,c4⟩,⟨u3,c5⟩⟩:=H2.ae.second (kp+1) (kp) WC WC (Bu D (kp+1) Kx (kp));have S3:=aa (H2.ae.swap (kp+1) (kp) WC WC);simp only[aP.rv,aP.kv] at c3 c4 c5 S3;go_upto_region 23 with fail;go_big_region_o;clear c1 c2 ly lz c3 c4 c5 f1 f2 f1k f2k;have e9:=GL D (kp+1) Kx WC hk;rw[show kp+1 - 1=kp by omega] at e9;rw[e9] at S3;generalize hW3:World.drew _=W3 at S3 ⊢;clear hW3;go_wp2_with fail;go_roundw;case rel=>exact⟨kp,by omega,by omega,by go_num,S3.ae⟩
     case measure=>first |(simp[intOf];done)|(simp[intOf];omega)
    ·have t2:decide ((j:Int)<(k:Int))=false:=decide_eq_false WC;have GH:k=j:=by omega
     exact ZeE
theorem Found.goP{s p:Nat}(hp:p=mid+m - 1)(he:yF a m b mid s0 r0)(h1:cD D a m)(h2:cD D m b)(h:Found D p s0 r0 s r)(hs:s0<=s)(hr:r<=r0)(hc:s<=c)(hc2:c < r):
  (¬lt (D (p - c)) (D c)->Found D p s0 r0 (c+1) r)/\(lt (D (p - c)) (D c)->Found D p s0 r0 s c):=by subst hp;exact Found.go he h1 h2 h hs hr hc hc2
variable{f:Nat}
theorem Dg{s p:Nat}(hp:p=mid+m - 1)(hf:f=mid+m - s)(he:yF a m b mid s0 r0)(h1:cD D a m)(h2:cD D m b)(h:Found D p s0 r0 s s)(hs:s0<=s)(hr:s<=r0):
  cD (bc D s m f) a s/\cD (bc D s m f) s mid/\cD (bc D s m f) mid f/\cD (bc D s m f) f b/\
  ∀x y,a<=x->x < mid->mid<=y->y < b->le (bc D s m f x) (bc D s m f y):=by subst hp hf;exact VT he h1 h2 h hs hr
theorem zcI.Kaw(h:p:=by
 go_loopw [20,21] (λ sv rv wr=>∃i j:Nat,s0<=i/\i<=s/\s<=j/\j<=r0/\sv=af i/\rv=af j/\SS w0 g n wr D) (λ sv rv _=>(intOf rv).toNat - (intOf sv).toNat);case atStart=>exact Zcy
 case round=>exact ZaU):p:=h
theorem zaS.Kab(h:p:=by
 have zs:(mid:Int)+(Kx:Int) - (b:Int)=(s0:Int):=by omega
 open zcI in exact Zba):p:=h
theorem VU (w0:World)(g n cap a Kx b mid p s f s0 r0:Nat)(D:Nat->aP ds gp)(w:World)(h:SS w0 g n w D)(hn:n<=1000)(O8:a+1 < Kx)(O9:Kx+1 < b)(hb:b<=n)(gj:mid=(a+b)/ 2)(hp:p=mid+Kx - 1)(hf:f=mid+Kx - s)(tL:s0=mid+Kx - b)(mq:r0=mid)(Nk:mid < Kx)
  (hs0:s0<=s) (yl:s<=r0) (hF:Found D p s0 r0 s s) (q1:cD (bc D s Kx f) a s) (q2:cD (bc D s Kx f) s mid) (q3:cD (bc D s Kx f) mid f) (q4:cD (bc D s Kx f) f b) (q5:∀x y,a<=x->x < mid->mid<=y->y < b->le (bc D s Kx f x) (bc D s Kx f y)) (k0:s < Kx) (k1:Kx < f) (k2:a < s) (k3:s < mid) (k4:mid < f) (k5:f < b)
  (ih:∀a' m' b' (E:Nat->aP ds gp) W,a' < m'->m' < b'->b'<=n->b' - a' < b - a->SS w0 g n W E->cD E a' m'->cD E m' b'->ar 106 #[aI g n cap,af (a':Nat),af (m':Nat),af (b':Nat),.func (.func 39) #[aw gp] #[]] W (br w0 g n a' b' E)):
  ar 106 #[aI g n cap,af a,af Kx,af b,.func (.func 39) #[aw gp] #[]] w (br w0 g n a b D):=by
 open zaS in exact Zap
theorem zcJ.Kaw(h:p:=by
 go_loopw [20,21] (λ sv rv wr=>∃i j:Nat,s0<=i/\i<=s/\s<=j/\j<=r0/\sv=af i/\rv=af j/\SS w0 g n wr D) (λ sv rv _=>(intOf rv).toNat - (intOf sv).toNat);case atStart=>exact Zcy
 case round=>exact ZaD):p:=h
theorem zaT.Kab(h:p:=by
 have zs:(mid:Int)+(Kx:Int) - (b:Int)=(s0:Int):=by omega
 open zcJ in exact Zba):p:=h
theorem VV (w0:World)(g n cap a Kx b mid p s f s0 r0:Nat)(D:Nat->aP ds gp)(w:World)(h:SS w0 g n w D)(hn:n<=1000)(O8:a+1 < Kx)(O9:Kx+1 < b)(hb:b<=n)(gj:mid=(a+b)/ 2)(hp:p=mid+Kx - 1)(hf:f=mid+Kx - s)(tL:s0=mid+Kx - b)(mq:r0=mid)(Nk:mid < Kx)
  (hs0:s0<=s) (yl:s<=r0) (hF:Found D p s0 r0 s s) (q1:cD (bc D s Kx f) a s) (q2:cD (bc D s Kx f) s mid) (q3:cD (bc D s Kx f) mid f) (q4:cD (bc D s Kx f) f b) (q5:∀x y,a<=x->x < mid->mid<=y->y < b->le (bc D s Kx f x) (bc D s Kx f y)) (k0:s < Kx) (k1:Kx < f) (k2:a < s) (k3:s < mid) (k4:mid < f) (k5:¬(f < b))
  (ih:∀a' m' b' (E:Nat->aP ds gp) W,a' < m'->m' < b'->b'<=n->b' - a' < b - a->SS w0 g n W E->cD E a' m'->cD E m' b'->ar 106 #[aI g n cap,af (a':Nat),af (m':Nat),af (b':Nat),.func (.func 39) #[aw gp] #[]] W (br w0 g n a' b' E)):
  ar 106 #[aI g n cap,af a,af Kx,af b,.func (.func 39) #[aw gp] #[]] w (br w0 g n a b D):=by
 open zaT in exact Zap
theorem zcK.Kaw(h:p:=by
 go_loopw [20,21] (λ sv rv wr=>∃i j:Nat,s0<=i/\i<=s/\s<=j/\j<=r0/\sv=af i/\rv=af j/\SS w0 g n wr D) (λ sv rv _=>(intOf rv).toNat - (intOf sv).toNat);case atStart=>exact Zcy
 case round=>exact ZaL):p:=h
theorem zaU.Kab(h:p:=by
 have zs:(mid:Int)+(Kx:Int) - (b:Int)=(s0:Int):=by omega
 open zcK in exact Zba):p:=h
theorem VW (w0:World)(g n cap a Kx b mid p s f s0 r0:Nat)(D:Nat->aP ds gp)(w:World)(h:SS w0 g n w D)(hn:n<=1000)(O8:a+1 < Kx)(O9:Kx+1 < b)(hb:b<=n)(gj:mid=(a+b)/ 2)(hp:p=mid+Kx - 1)(hf:f=mid+Kx - s)(tL:s0=mid+Kx - b)(mq:r0=mid)(Nk:mid < Kx)
  (hs0:s0<=s) (yl:s<=r0) (hF:Found D p s0 r0 s s) (q1:cD (bc D s Kx f) a s) (q2:cD (bc D s Kx f) s mid) (q3:cD (bc D s Kx f) mid f) (q4:cD (bc D s Kx f) f b) (q5:∀x y,a<=x->x < mid->mid<=y->y < b->le (bc D s Kx f x) (bc D s Kx f y)) (k0:s < Kx) (k1:Kx < f) (k2:¬(a < s)) (k3:s < mid) (k4:mid < f) (k5:f < b)
  (ih:∀a' m' b' (E:Nat->aP ds gp) W,a' < m'->m' < b'->b'<=n->b' - a' < b - a->SS w0 g n W E->cD E a' m'->cD E m' b'->ar 106 #[aI g n cap,af (a':Nat),af (m':Nat),af (b':Nat),.func (.func 39) #[aw gp] #[]] W (br w0 g n a' b' E)):
  ar 106 #[aI g n cap,af a,af Kx,af b,.func (.func 39) #[aw gp] #[]] w (br w0 g n a b D):=by
 open zaU in exact Zap
theorem zcL.Kaw(h:p:=by
 go_loopw [20,21] (λ sv rv wr=>∃i j:Nat,s0<=i/\i<=s/\s<=j/\j<=r0/\sv=af i/\rv=af j/\SS w0 g n wr D) (λ sv rv _=>(intOf rv).toNat - (intOf sv).toNat);case atStart=>exact Zcy
 case round=>exact Za2):p:=h
theorem zaV.Kab(h:p:=by
 have zs:(mid:Int)+(Kx:Int) - (b:Int)=(s0:Int):=by omega
 open zcL in exact Zba):p:=h
theorem VX (w0:World)(g n cap a Kx b mid p s f s0 r0:Nat)(D:Nat->aP ds gp)(w:World)(h:SS w0 g n w D)(hn:n<=1000)(O8:a+1 < Kx)(O9:Kx+1 < b)(hb:b<=n)(gj:mid=(a+b)/ 2)(hp:p=mid+Kx - 1)(hf:f=mid+Kx - s)(tL:s0=mid+Kx - b)(mq:r0=mid)(Nk:mid < Kx)
  (hs0:s0<=s) (yl:s<=r0) (hF:Found D p s0 r0 s s) (q1:cD (bc D s Kx f) a s) (q2:cD (bc D s Kx f) s mid) (q3:cD (bc D s Kx f) mid f) (q4:cD (bc D s Kx f) f b) (q5:∀x y,a<=x->x < mid->mid<=y->y < b->le (bc D s Kx f x) (bc D s Kx f y)) (k0:s < Kx) (k1:Kx < f) (k2:¬(a < s)) (k3:s < mid) (k4:mid < f) (k5:¬(f < b))
  (ih:∀a' m' b' (E:Nat->aP ds gp) W,a' < m'->m' < b'->b'<=n->b' - a' < b - a->SS w0 g n W E->cD E a' m'->cD E m' b'->ar 106 #[aI g n cap,af (a':Nat),af (m':Nat),af (b':Nat),.func (.func 39) #[aw gp] #[]] W (br w0 g n a' b' E)):
  ar 106 #[aI g n cap,af a,af Kx,af b,.func (.func 39) #[aw gp] #[]] w (br w0 g n a b D):=by
 open zaV in exact Zap
theorem zcM.Kaw(h:p:=by
 go_loopw [20,21] (λ sv rv wr=>∃i j:Nat,s0<=i/\i<=s/\s<=j/\j<=r0/\sv=af i/\rv=af j/\SS w0 g n wr D) (λ sv rv _=>(intOf rv).toNat - (intOf sv).toNat);case atStart=>exact ZbU
 case round=>exact ZaU):p:=h
theorem zaW.Kab(h:p:=by
 have zs:(0:Int)=0:=by omega
 open zcM in exact Zba):p:=h
theorem VY (w0:World)(g n cap a Kx b mid p s f s0 r0:Nat)(D:Nat->aP ds gp)(w:World)(h:SS w0 g n w D)(hn:n<=1000)(O8:a+1 < Kx)(O9:Kx+1 < b)(hb:b<=n)(gj:mid=(a+b)/ 2)(hp:p=mid+Kx - 1)(hf:f=mid+Kx - s)(tL:s0=a)(mq:r0=Kx)(Nk:¬(mid < Kx))
  (hs0:s0<=s) (yl:s<=r0) (hF:Found D p s0 r0 s s) (q1:cD (bc D s Kx f) a s) (q2:cD (bc D s Kx f) s mid) (q3:cD (bc D s Kx f) mid f) (q4:cD (bc D s Kx f) f b) (q5:∀x y,a<=x->x < mid->mid<=y->y < b->le (bc D s Kx f x) (bc D s Kx f y)) (k0:s < Kx) (k1:Kx < f) (k2:a < s) (k3:s < mid) (k4:mid < f) (k5:f < b)
  (ih:∀a' m' b' (E:Nat->aP ds gp) W,a' < m'->m' < b'->b'<=n->b' - a' < b - a->SS w0 g n W E->cD E a' m'->cD E m' b'->ar 106 #[aI g n cap,af (a':Nat),af (m':Nat),af (b':Nat),.func (.func 39) #[aw gp] #[]] W (br w0 g n a' b' E)):
  ar 106 #[aI g n cap,af a,af Kx,af b,.func (.func 39) #[aw gp] #[]] w (br w0 g n a b D):=by
 open zaW in exact Zap
theorem zcN.Kaw(h:p:=by
 go_loopw [20,21] (λ sv rv wr=>∃i j:Nat,s0<=i/\i<=s/\s<=j/\j<=r0/\sv=af i/\rv=af j/\SS w0 g n wr D) (λ sv rv _=>(intOf rv).toNat - (intOf sv).toNat);case atStart=>exact ZbU
 case round=>exact ZaD):p:=h
theorem zaX.Kab(h:p:=by
 have zs:(0:Int)=0:=by omega
 open zcN in exact Zba):p:=h
theorem VZ (w0:World)(g n cap a Kx b mid p s f s0 r0:Nat)(D:Nat->aP ds gp)(w:World)(h:SS w0 g n w D)(hn:n<=1000)(O8:a+1 < Kx)(O9:Kx+1 < b)(hb:b<=n)(gj:mid=(a+b)/ 2)(hp:p=mid+Kx - 1)(hf:f=mid+Kx - s)(tL:s0=a)(mq:r0=Kx)(Nk:¬(mid < Kx))
  (hs0:s0<=s) (yl:s<=r0) (hF:Found D p s0 r0 s s) (q1:cD (bc D s Kx f) a s) (q2:cD (bc D s Kx f) s mid) (q3:cD (bc D s Kx f) mid f) (q4:cD (bc D s Kx f) f b) (q5:∀x y,a<=x->x < mid->mid<=y->y < b->le (bc D s Kx f x) (bc D s Kx f y)) (k0:s < Kx) (k1:Kx < f) (k2:a < s) (k3:s < mid) (k4:mid < f) (k5:¬(f < b))
  (ih:∀a' m' b' (E:Nat->aP ds gp) W,a' < m'->m' < b'->b'<=n->b' - a' < b - a->SS w0 g n W E->cD E a' m'->cD E m' b'->ar 106 #[aI g n cap,af (a':Nat),af (m':Nat),af (b':Nat),.func (.func 39) #[aw gp] #[]] W (br w0 g n a' b' E)):
  ar 106 #[aI g n cap,af a,af Kx,af b,.func (.func 39) #[aw gp] #[]] w (br w0 g n a b D):=by
 open zaX in exact Zap
theorem zcO.Kaw(h:p:=by
 go_loopw [20,21] (λ sv rv wr=>∃i j:Nat,s0<=i/\i<=s/\s<=j/\j<=r0/\sv=af i/\rv=af j/\SS w0 g n wr D) (λ sv rv _=>(intOf rv).toNat - (intOf sv).toNat);case atStart=>exact ZbU
 case round=>exact ZaL):p:=h
theorem zaY.Kab(h:p:=by
 have zs:(0:Int)=0:=by omega
 open zcO in exact Zba):p:=h
theorem Wc (w0:World)(g n cap a Kx b mid p s f s0 r0:Nat)(D:Nat->aP ds gp)(w:World)(h:SS w0 g n w D)(hn:n<=1000)(O8:a+1 < Kx)(O9:Kx+1 < b)(hb:b<=n)(gj:mid=(a+b)/ 2)(hp:p=mid+Kx - 1)(hf:f=mid+Kx - s)(tL:s0=a)(mq:r0=Kx)(Nk:¬(mid < Kx))
  (hs0:s0<=s) (yl:s<=r0) (hF:Found D p s0 r0 s s) (q1:cD (bc D s Kx f) a s) (q2:cD (bc D s Kx f) s mid) (q3:cD (bc D s Kx f) mid f) (q4:cD (bc D s Kx f) f b) (q5:∀x y,a<=x->x < mid->mid<=y->y < b->le (bc D s Kx f x) (bc D s Kx f y)) (k0:s < Kx) (k1:Kx < f) (k2:¬(a < s)) (k3:s < mid) (k4:mid < f) (k5:f < b)
  (ih:∀a' m' b' (E:Nat->aP ds gp) W,a' < m'->m' < b'->b'<=n->b' - a' < b - a->SS w0 g n W E->cD E a' m'->cD E m' b'->ar 106 #[aI g n cap,af (a':Nat),af (m':Nat),af (b':Nat),.func (.func 39) #[aw gp] #[]] W (br w0 g n a' b' E)):
  ar 106 #[aI g n cap,af a,af Kx,af b,.func (.func 39) #[aw gp] #[]] w (br w0 g n a b D):=by
 open zaY in exact Zap
theorem zcP.Kaw(h:p:=by
 go_loopw [20,21] (λ sv rv wr=>∃i j:Nat,s0<=i/\i<=s/\s<=j/\j<=r0/\sv=af i/\rv=af j/\SS w0 g n wr D) (λ sv rv _=>(intOf rv).toNat - (intOf sv).toNat);case atStart=>exact ZbU
 case round=>exact Za2):p:=h
theorem zaZ.Kab(h:p:=by
 have zs:(0:Int)=0:=by omega
 open zcP in exact Zba):p:=h
theorem We (w0:World)(g n cap a Kx b mid p s f s0 r0:Nat)(D:Nat->aP ds gp)(w:World)(h:SS w0 g n w D)(hn:n<=1000)(O8:a+1 < Kx)(O9:Kx+1 < b)(hb:b<=n)(gj:mid=(a+b)/ 2)(hp:p=mid+Kx - 1)(hf:f=mid+Kx - s)(tL:s0=a)(mq:r0=Kx)(Nk:¬(mid < Kx))
  (hs0:s0<=s) (yl:s<=r0) (hF:Found D p s0 r0 s s) (q1:cD (bc D s Kx f) a s) (q2:cD (bc D s Kx f) s mid) (q3:cD (bc D s Kx f) mid f) (q4:cD (bc D s Kx f) f b) (q5:∀x y,a<=x->x < mid->mid<=y->y < b->le (bc D s Kx f x) (bc D s Kx f y)) (k0:s < Kx) (k1:Kx < f) (k2:¬(a < s)) (k3:s < mid) (k4:mid < f) (k5:¬(f < b))
  (ih:∀a' m' b' (E:Nat->aP ds gp) W,a' < m'->m' < b'->b'<=n->b' - a' < b - a->SS w0 g n W E->cD E a' m'->cD E m' b'->ar 106 #[aI g n cap,af (a':Nat),af (m':Nat),af (b':Nat),.func (.func 39) #[aw gp] #[]] W (br w0 g n a' b' E)):
  ar 106 #[aI g n cap,af a,af Kx,af b,.func (.func 39) #[aw gp] #[]] w (br w0 g n a b D):=by
 open zaZ in exact Zap
theorem zit.Kcs(h:p:=by clear e1 H2;exact ZbW):p:=h
theorem zho.KbZ(h:p:=by have u1_:decide (Kx < f)=false:=decide_eq_false k1;have u2_:decide (a < s)=true:=decide_eq_true k2;have u3_:decide (s < mid)=false:=decide_eq_false k3;have u4_:decide (mid < f)=true:=decide_eq_true k4;have u5_:decide (f < b)=true:=decide_eq_true k5;open zit in exact Zhu):p:=h
theorem zcQ.Kaw(h:p:=by
 go_loopw [20,21] (λ sv rv wr=>∃i j:Nat,s0<=i/\i<=s/\s<=j/\j<=r0/\sv=af i/\rv=af j/\SS w0 g n wr D) (λ sv rv _=>(intOf rv).toNat - (intOf sv).toNat);case atStart=>exact Zcy
 case round=>
  clear HS;obtain⟨i,j,pn,hi,hj,EE,rfl,rfl,hs⟩:=hrel;have H2:=aa hs;clear hs;by_cases hlt:i < j
  ·exact Z0
  ·open zho in exact Zfi):p:=h
theorem za0.Kab(h:p:=by
 have zs:(mid:Int)+(Kx:Int) - (b:Int)=(s0:Int):=by omega
 open zcQ in exact Zba):p:=h
theorem ads (w0:World)(g n cap a Kx b mid p s f s0 r0:Nat)(D:Nat->aP ds gp)(w:World)(h:SS w0 g n w D)(hn:n<=1000)(O8:a+1 < Kx)(O9:Kx+1 < b)(hb:b<=n)(gj:mid=(a+b)/ 2)(hp:p=mid+Kx - 1)(hf:f=mid+Kx - s)(tL:s0=mid+Kx - b)(mq:r0=mid)(Nk:mid < Kx)
  (hs0:s0<=s) (yl:s<=r0) (hF:Found D p s0 r0 s s) (q1:cD (bc D s Kx f) a s) (q2:cD (bc D s Kx f) s mid) (q3:cD (bc D s Kx f) mid f) (q4:cD (bc D s Kx f) f b) (q5:∀x y,a<=x->x < mid->mid<=y->y < b->le (bc D s Kx f x) (bc D s Kx f y)) (k0:s < Kx) (k1:¬(Kx < f)) (k2:a < s) (k3:¬(s < mid)) (k4:mid < f) (k5:f < b)
  (ih:∀a' m' b' (E:Nat->aP ds gp) W,a' < m'->m' < b'->b'<=n->b' - a' < b - a->SS w0 g n W E->cD E a' m'->cD E m' b'->ar 106 #[aI g n cap,af (a':Nat),af (m':Nat),af (b':Nat),.func (.func 39) #[aw gp] #[]] W (br w0 g n a' b' E)):
  ar 106 #[aI g n cap,af a,af Kx,af b,.func (.func 39) #[aw gp] #[]] w (br w0 g n a b D):=by
 open za0 in exact Zap
theorem zh1.Kcg(h:p:=by
 have u3_:decide (s < mid)=true:=decide_eq_true k3;have Lw:decide (mid < f)=false:=decide_eq_false KK;have e1:bc D s Kx f=D:=by exact ZdK
 have H3:=aa (show SS w0 g n _ (bc D s Kx f) by rw[e1];exact H2.ae);have vV:=aa (show Sw s f D (bc D s Kx f) by rw[e1];exact .refl);clear e1 H2;generalize bc D s Kx f=R at*;go_wp2_with fail;refine(IH.ae a s mid R _ WC WC WC WC H3.ae Q1.ae HFN.ae).mono ?_;rintro e_ w6 ⟨rfl,E,hs,hw,ho⟩;have H4:=aa hs;have HW:=aa hw;have HO:=aa ho;clear hs hw ho H3;go_wp2_with fail;have EH:=aa (Q3.ae.congr (E:=E) λ x h1 h2=>HW.ae.ae x (.inr h1));have EI:=aa (Q4.ae.congr (E:=E) λ x h1 h2=>HW.ae.ae x (.inr WC));have H6:=aa (show cD E mid b from by
  rcases(show f=mid\/f=b by omega)with e | e
  ·have:=EI.ae;rwa [e] at this
  ·have:=EH.ae;rwa [e] at this)
 exact ZbE):p:=h
theorem zcR.Kaw(h:p:=by
 go_loopw [20,21] (λ sv rv wr=>∃i j:Nat,s0<=i/\i<=s/\s<=j/\j<=r0/\sv=af i/\rv=af j/\SS w0 g n wr D) (λ sv rv _=>(intOf rv).toNat - (intOf sv).toNat);case atStart=>exact ZbU
 case round=>
  clear HS;obtain⟨i,j,pn,hi,hj,EE,rfl,rfl,hs⟩:=hrel;have H2:=aa hs;clear hs;by_cases hlt:i < j
  ·exact Z0
  ·open zh1 in exact Zgk):p:=h
theorem za1.Kab(h:p:=by
 have zs:(0:Int)=0:=by omega
 open zcR in exact Zba):p:=h
theorem P6 (w0:World)(g n cap a Kx b mid p s f s0 r0:Nat)(D:Nat->aP ds gp)(w:World)(h:SS w0 g n w D)(hn:n<=1000)(O8:a+1 < Kx)(O9:Kx+1 < b)(hb:b<=n)(gj:mid=(a+b)/ 2)(hp:p=mid+Kx - 1)(hf:f=mid+Kx - s)(tL:s0=a)(mq:r0=Kx)(Nk:¬(mid < Kx))
  (hs0:s0<=s) (yl:s<=r0) (hF:Found D p s0 r0 s s) (q1:cD (bc D s Kx f) a s) (q2:cD (bc D s Kx f) s mid) (q3:cD (bc D s Kx f) mid f) (q4:cD (bc D s Kx f) f b) (q5:∀x y,a<=x->x < mid->mid<=y->y < b->le (bc D s Kx f x) (bc D s Kx f y)) (k0:¬(s < Kx)) (k2:a < s) (k3:s < mid) (KK:¬(mid < f))
  (ih:∀a' m' b' (E:Nat->aP ds gp) W,a' < m'->m' < b'->b'<=n->b' - a' < b - a->SS w0 g n W E->cD E a' m'->cD E m' b'->ar 106 #[aI g n cap,af (a':Nat),af (m':Nat),af (b':Nat),.func (.func 39) #[aw gp] #[]] W (br w0 g n a' b' E)):
  ar 106 #[aI g n cap,af a,af Kx,af b,.func (.func 39) #[aw gp] #[]] w (br w0 g n a b D):=by
 open za1 in exact Zap
theorem ziu.Kcs(h:p:=by clear e1 H2;exact Zaj):p:=h
theorem zh2.Kcg(h:p:=by have u3_:decide (s < mid)=false:=decide_eq_false k3;have Lw:decide (mid < f)=false:=decide_eq_false KK;open ziu in exact Zhu):p:=h
theorem zcS.Kaw(h:p:=by
 go_loopw [20,21] (λ sv rv wr=>∃i j:Nat,s0<=i/\i<=s/\s<=j/\j<=r0/\sv=af i/\rv=af j/\SS w0 g n wr D) (λ sv rv _=>(intOf rv).toNat - (intOf sv).toNat);case atStart=>exact ZbU
 case round=>
  clear HS;obtain⟨i,j,pn,hi,hj,EE,rfl,rfl,hs⟩:=hrel;have H2:=aa hs;clear hs;by_cases hlt:i < j
  ·exact Z0
  ·open zh2 in exact Zgk):p:=h
theorem za2.Kab(h:p:=by
 have zs:(0:Int)=0:=by omega
 open zcS in exact Zba):p:=h
theorem P7 (w0:World)(g n cap a Kx b mid p s f s0 r0:Nat)(D:Nat->aP ds gp)(w:World)(h:SS w0 g n w D)(hn:n<=1000)(O8:a+1 < Kx)(O9:Kx+1 < b)(hb:b<=n)(gj:mid=(a+b)/ 2)(hp:p=mid+Kx - 1)(hf:f=mid+Kx - s)(tL:s0=a)(mq:r0=Kx)(Nk:¬(mid < Kx))
  (hs0:s0<=s) (yl:s<=r0) (hF:Found D p s0 r0 s s) (q1:cD (bc D s Kx f) a s) (q2:cD (bc D s Kx f) s mid) (q3:cD (bc D s Kx f) mid f) (q4:cD (bc D s Kx f) f b) (q5:∀x y,a<=x->x < mid->mid<=y->y < b->le (bc D s Kx f x) (bc D s Kx f y)) (k0:¬(s < Kx)) (k2:a < s) (k3:¬(s < mid)) (KK:¬(mid < f))
  (ih:∀a' m' b' (E:Nat->aP ds gp) W,a' < m'->m' < b'->b'<=n->b' - a' < b - a->SS w0 g n W E->cD E a' m'->cD E m' b'->ar 106 #[aI g n cap,af (a':Nat),af (m':Nat),af (b':Nat),.func (.func 39) #[aw gp] #[]] W (br w0 g n a' b' E)):
  ar 106 #[aI g n cap,af a,af Kx,af b,.func (.func 39) #[aw gp] #[]] w (br w0 g n a b D):=by
 open za2 in exact Zap
theorem Dh{p:Nat}(hp:p=mid+m - 1)(he:yF a m b mid s0 r0)(h1:cD D a m)(h2:cD D m b)(hsr:s0<=r0):∃s,s0<=s/\s<=r0/\Found D p s0 r0 s s:=by
 have key:∀d s,r0 - s<=d->s0<=s->s<=r0->Found D p s0 r0 s r0->∃s,s0<=s/\s<=r0/\Found D p s0 r0 s s:=by
  intro d
  induction d with
  | zero=>intro s h3 h4 h5 h6;exact⟨s,h4,h5,by rw[show r0=s by omega] at h6 ⊢;exact h6⟩
  | succ d ih=>
    intro s h3 h4 h5 h6;by_cases hs:s=r0
    ·exact⟨s,h4,h5,by rw[<- hs] at h6 ⊢;exact h6⟩
    ·have k:=Found.goP hp he h1 h2 h6 h4 (Nat.le_refl _) (Nat.le_refl s) WC;by_cases hl:lt (D (p - s)) (D s)
     ·exact⟨s,h4,h5,k.2 hl⟩
     ·exact ih (s+1) WC WC WC (k.1 hl)
 exact key (r0 - s0) s0 (Nat.le_refl _) (Nat.le_refl _) hsr ⟨λ c h1 h2=>by omega,λ c h1 h2=>by omega⟩
theorem zii.Kco(h:p:=by
 by_cases c3:m < f
 ·by_cases c4:a < s <;> by_cases c5:f < b
  ·exact VU w0 g n cap a m b mid p s f s0 r0 D w h hn WC WC hb gj hp hf hs0 yl hm hs1 hs2 hF e1 e2 e3 e4 e5 WC c3 c4 WC WC c5 ih'
  ·exact VV w0 g n cap a m b mid p s f s0 r0 D w h hn WC WC hb gj hp hf hs0 yl hm hs1 hs2 hF e1 e2 e3 e4 e5 WC c3 c4 WC WC c5 ih'
  ·exact VW w0 g n cap a m b mid p s f s0 r0 D w h hn WC WC hb gj hp hf hs0 yl hm hs1 hs2 hF e1 e2 e3 e4 e5 WC c3 c4 WC WC c5 ih'
  ·exact VX w0 g n cap a m b mid p s f s0 r0 D w h hn WC WC hb gj hp hf hs0 yl hm hs1 hs2 hF e1 e2 e3 e4 e5 WC c3 c4 WC WC c5 ih'
 ·exact ads w0 g n cap a m b mid p s f s0 r0 D w h hn WC WC hb gj hp hf hs0 yl hm hs1 hs2 hF e1 e2 e3 e4 e5 WC c3 WC WC WC WC ih'):p:=h
theorem zij.Kco(h:p:=by
 by_cases c3:s < m
 ·by_cases c4:a < s <;> by_cases c5:f < b
  ·exact VY w0 g n cap a m b mid p s f s0 r0 D w h hn WC WC hb gj hp hf hs0 yl hm hs1 hs2 hF e1 e2 e3 e4 e5 c3 WC c4 WC WC c5 ih'
  ·exact VZ w0 g n cap a m b mid p s f s0 r0 D w h hn WC WC hb gj hp hf hs0 yl hm hs1 hs2 hF e1 e2 e3 e4 e5 c3 WC c4 WC WC c5 ih'
  ·exact Wc w0 g n cap a m b mid p s f s0 r0 D w h hn WC WC hb gj hp hf hs0 yl hm hs1 hs2 hF e1 e2 e3 e4 e5 c3 WC c4 WC WC c5 ih'
  ·exact We w0 g n cap a m b mid p s f s0 r0 D w h hn WC WC hb gj hp hf hs0 yl hm hs1 hs2 hF e1 e2 e3 e4 e5 c3 WC c4 WC WC c5 ih'
 ·by_cases c4:s < mid
  ·exact P6 w0 g n cap a m b mid p s f s0 r0 D w h hn WC WC hb gj hp hf hs0 yl hm hs1 hs2 hF e1 e2 e3 e4 e5 c3 WC c4 WC ih'
  ·exact P7 w0 g n cap a m b mid p s f s0 r0 D w h hn WC WC hb gj hp hf hs0 yl hm hs1 hs2 hF e1 e2 e3 e4 e5 c3 WC c4 WC ih'):p:=h
theorem Tk (w0:World)(g n cap:Nat)(hn:n<=1000):∀(N a m b:Nat) (D:Nat->aP ds gp) (w:World),b - a<=N->a < m->m < b->b<=n->SS w0 g n w D->cD D a m->cD D m b->
  ar 106 #[aI g n cap,af a,af m,af b,.func (.func 39) #[aw gp] #[]] w (br w0 g n a b D):=by
 intro N
 induction N with
 | zero=>intro a m b D w h0 h1 h2;omega
 | succ N ih=>
   intro a m b D w h0 h1 h2 hb h q1 q2;by_cases c1:m=a+1
   ·subst c1;have:=adq w0 g n cap a b D w h hn h2 hb q2;exact ZeU
   by_cases c2:b=m+1
   ·subst c2;have:=adr w0 g n cap a m D w h hn WC hb q1;exact ZeU
   have ih':∀a' m' b' (E:Nat->aP ds gp) W,a' < m'->m' < b'->b'<=n->b' - a' < b - a->SS w0 g n W E->cD E a' m'->cD E m' b'->ar 106 #[aI g n cap,af (a':Nat),af (m':Nat),af (b':Nat),.func (.func 39) #[aw gp] #[]] W (br w0 g n a' b' E):=
    λ a' m' b' E W k1 k2 k3 k4 k5 k6 k7=>ih a' m' b' E W WC k1 k2 k3 k5 k6 k7
   obtain⟨mid,gj⟩:∃q:Nat,q=(a+b)/ 2:=⟨_,rfl⟩;obtain⟨p,hp⟩:∃q:Nat,q=mid+m - 1:=⟨_,rfl⟩;by_cases hm:mid < m
   ·obtain⟨s0,hs0⟩:∃q:Nat,q=mid+m - b:=⟨_,rfl⟩;obtain⟨r0,yl⟩:∃q:Nat,q=mid:=⟨_,rfl⟩;have he:yF a m b mid s0 r0:=⟨⟨h1,h2⟩,gj,.inl ⟨by omega,hs0,yl⟩⟩;open zii in exact Zhj
   ·obtain⟨s0,hs0⟩:∃q:Nat,q=a:=⟨_,rfl⟩;obtain⟨r0,yl⟩:∃q:Nat,q=m:=⟨_,rfl⟩;have he:yF a m b mid s0 r0:=⟨⟨h1,h2⟩,gj,.inr ⟨by omega,hs0,yl⟩⟩;open zij in exact Zhj
def QG (E:Nat->aP ds gp)(s n:Nat):Prop:=∀a,s ∣ a->cD E a (min (a+s) n)
variable{d:Nat}
theorem Di{x y:Nat}(h1:d ∣ x)(h2:d ∣ y)(h:x < y):x+d<=y:=by obtain⟨u,rfl⟩:=h1;obtain⟨v,rfl⟩:=h2;have:u < v:=Nat.lt_of_mul_lt_mul_left h;have h3:=Nat.mul_le_mul_left d (show u+1<=v by omega);rw[Nat.mul_add,Nat.mul_one] at h3;exact h3
def Low (E:Nat->aP ds gp)(s a:Nat):Prop:=∀x,s ∣ x->x+s<=a->cD E x (x+s)
def P8 (E:Nat->aP ds gp)(s a n:Nat):Prop:=∀x,s ∣ x->a<=x->cD E x (min (x+s) n)
theorem Low.step{s:Nat}(h:Low E s a)(hd:s ∣ a)(hw:Sw a (a+s) E F)(ho:cD F a (a+s)):Low F s (a+s):=by
 intro x hx hle;rcases Nat.lt_or_ge x a with h1 | h1
 ·have:=Di hx hd h1;exact(h x hx this).congr λ i h2 h3=>hw.ae i (.inl WC)
 ·rw[show x=a by omega];exact ho
theorem P8.step{s:Nat}(h:P8 E s a n)(hab:a<=b)(hw:Sw a b E F):P8 F s b n:=λ x hx hle=>(h x hx WC).congr λ i h2 h3=>hw.ae i (.inr WC)
theorem uI{s:Nat}(h:Low E s a)(hd:s ∣ a)(han:a<=n)(hn:n < a+s)(hw:Sw a n E F)(ho:cD F a n):QG F s n:=by
 intro x hx;rcases Nat.lt_trichotomy x a with h1 | h1 | h1
 ·have h2:=Di hx hd h1;exact((h x hx h2).congr λ i h3 h4=>hw.ae i (.inl WC)).mono (Nat.le_refl _) WC
 ·subst h1;exact ho.mono (Nat.le_refl _) WC
 ·have h2:=Di hd hx h1;exact .none WC
theorem zh9.Kck(h:p:=by
 have HO:=aa (oy.ae.step Ag.ae q5 ho);have HH3:=aa (F2.ae.step WC q5);have Pz:=aa (Nat.dvd_add Ag.ae (Nat.dvd_refl (2*j)));clear q4 q5 ho Ag P9 oy F2 Q5 Q4 HC;go_wp2_with fail;go_roundw;case rel=>exact⟨a+2*j,G,Pz.ae,by omega,by go_num,by go_num,H2.ae,HW.ae,HO.ae,HH3.ae⟩
 case measure=>exact Za0):p:=h
theorem zia.Kck(h:p:=by
 have HO:=aa (uI oy.ae Ag.ae han WC q5 ho);clear q4 q5 ho Ag P9 oy F2 Q5 Q4 HC;go_wp2_with fail;go_roundw;case rel=>exact⟨2*j,G,by omega,by omega,by go_num,H2.ae,HW.ae,HO.ae⟩
 case measure=>exact Za0):p:=h
theorem QH (w0:World)(g n cap:Nat)(D:Nat->aP ds gp)(w:World)(h:SS w0 g n w D)(hn:n<=1000):
  ar 70 #[aI g n cap,af n,.func (.func 39) #[aw gp] #[]] w (br w0 g n 0 n D):=by
 have HS:=aa h;clear h;go_enter Tryz.func70,Tryz.ntmps70;go_wp2_with fail;go_loopw [7,8] (λ av bv wr=>∃(a:Nat) (E:Nat->aP ds gp),20 ∣ a/\a<=n/\av=af a/\bv=af (a+20)/\SS w0 g n wr E/\Sw 0 n D E/\Low E 20 a) (λ av _ _=>n - (intOf av).toNat);case atStart=>exact⟨0,D,⟨0,rfl⟩,by omega,rfl,rfl,HS.ae,.refl,λ x h1 h2=>by omega⟩
 case round=>
  clear HS;obtain⟨a,E,C3,han,rfl,rfl,q4,q5,Au⟩:=hrel;have Q4:=aa q4;have Q5:=aa q5;have oy:=aa Au;have Ag:=aa C3;clear q4 q5 Au C3;by_cases hlt:a+20<=n
  ·go_wp2_with fail;refine(tK w0 g n cap a (a+20) E _ Q4.ae hn WC WC).mono ?_;rintro e_ w1 ⟨rfl,F,q4,q5,ho⟩;have H2:=aa q4;have HW:=aa (Q5.ae.trans (q5.mono WC WC));have HO:=aa (oy.ae.step Ag.ae q5 ho);have Pz:=aa (Nat.dvd_add Ag.ae (Nat.dvd_refl 20));clear q4 q5 ho Ag oy Q5 Q4;go_wp2_with fail;go_roundw;case rel=>exact⟨a+20,F,Pz.ae,by omega,by go_num,by go_num,H2.ae,HW.ae,HO.ae⟩
   case measure=>exact Za0
  ·go_wp2_with fail;refine(tK w0 g n cap a n E _ Q4.ae hn WC WC).mono ?_;rintro e_ w1 ⟨rfl,F,q4,q5,ho⟩;have H2:=aa q4;have HW:=aa (Q5.ae.trans (q5.mono WC WC));have HO:=aa (uI oy.ae Ag.ae han WC q5 ho);clear q4 q5 ho Ag oy Q5 Q4;go_wp2_with fail;go_loopw [6] (λ sv wr=>∃(j:Nat) (E:Nat->aP ds gp),0 < j/\j<=2000/\sv=af j/\SS w0 g n wr E/\Sw 0 n D E/\QG E j n) (λ sv _=>n - (intOf sv).toNat);case atStart=>exact⟨20,F,by omega,by omega,rfl,H2.ae,HW.ae,HO.ae⟩
   case round=>
    clear H2 HW HO;obtain⟨j,E,hj0,hj,rfl,q4,q5,Au⟩:=hrel;have Q4:=aa q4;have Q5:=aa q5;have oy:=aa Au;clear q4 q5 Au;by_cases hlt:j < n
    ·go_wp2_with fail;go_loopw [7,8] (λ av bv wr2=>∃(a:Nat) (E:Nat->aP ds gp),2*j ∣ a/\a<=n/\av=af a/\bv=af (a+2*j:Nat)/\SS w0 g n wr2 E/\Sw 0 n D E/\Low E (2*j) a/\P8 E j a n) (λ av _ _=>n - (intOf av).toNat);case atStart=>exact⟨0,E,⟨0,rfl⟩,by omega,rfl,by go_num,Q4.ae,Q5.ae,λ x h1 h2=>by omega,λ x h1 h2=>oy.ae x h1⟩
     case round=>
      clear Q4 Q5 oy;obtain⟨a,E,C3,han,rfl,rfl,q4,q5,Au,Tn⟩:=hrel;have Q4:=aa q4;have Q5:=aa q5;have oy:=aa Au;have F2:=aa Tn;have Ag:=aa C3;have P9:=aa (show j ∣ a from Nat.dvd_trans ⟨2,by omega⟩ C3);clear q4 q5 Au Tn C3;by_cases sX:a+2*j<=n
      ·have hC:=Tk w0 g n cap hn (2*j) a (a+j) (a+2*j) E wr WC WC WC sX Q4.ae ((F2.ae a P9.ae (Nat.le_refl _)).mono (Nat.le_refl _) WC) ((F2.ae (a+j) (Nat.dvd_add P9.ae (Nat.dvd_refl j)) WC).mono (Nat.le_refl _) WC);rw[show((a+j:Nat):Int)=(a:Int)+(j:Int) by omega,show((a+2*j:Nat):Int)=(a:Int)+2*(j:Int) by omega] at hC;open zh9 in exact ZgQ
      ·by_cases Uf:a+j < n
       ·have hC:=Tk w0 g n cap hn (2*j) a (a+j) n E wr WC WC Uf (Nat.le_refl _) Q4.ae ((F2.ae a P9.ae (Nat.le_refl _)).mono (Nat.le_refl _) WC) ((F2.ae (a+j) (Nat.dvd_add P9.ae (Nat.dvd_refl j)) WC).mono (Nat.le_refl _) WC);rw[show((a+j:Nat):Int)=(a:Int)+(j:Int) by omega] at hC;open zia in exact ZgQ
       ·have HO:=aa (uI oy.ae Ag.ae han WC .refl ((F2.ae a P9.ae (Nat.le_refl _)).mono (Nat.le_refl _) WC));clear oy F2 Ag P9;go_wp2_with fail;go_roundw;case rel=>exact⟨2*j,E,by omega,by omega,by go_num,Q4.ae,Q5.ae,HO.ae⟩
        case measure=>exact Za0
    ·have HE:=aa (show cD E 0 n from(oy.ae 0 ⟨0,rfl⟩).mono (Nat.le_refl _) WC);go_wp2_with fail;exact bodyPost_ret (v:=.tuple #[]) Tbn rfl ⟨rfl,E,Q4.ae,Q5.ae,HE.ae⟩
theorem Dj (w0:World)(g n cap:Nat)(D:Nat->aP ds gp)(w:World)(h:SS w0 g n w D)(hn:n<=1000):
  ar 38 #[aI g n cap,.func (.func 39) #[aw gp] #[]] w (br w0 g n 0 n D):=by have HL:=QH w0 g n cap D w h hn;clear h;go_enter Tryz.func38,Tryz.ntmps38;go_wp2_with fail;refine HL.mono ?_;rintro e w1 ⟨rfl,b1⟩;go_wp2_with fail;exact bodyPost_ret (v:=.tuple #[]) Tbo rfl ⟨rfl,b1⟩
def wJ (w:World)(e:Ending)(w':World):Prop:=e=.returned (.tuple #[])/\w'=w
theorem Dk (A:Option Addr)(cap:Nat)(w:World):
  ar 105 #[.slice A 0 cap,af 0,af 0,.func (.func 39) #[aw gp] #[]] w (wJ w):=by
 go_enter Tryz.func105,Tryz.ntmps105;go_wp2_with fail;go_loopw [8] (λ iv wr=>iv=af 1/\wr=w) (λ _ _=>0);case atStart=>exact Zfo
 case round=>obtain⟨rfl,rfl⟩:=hrel;go_wp2_with fail;exact bodyPost_ret (v:=.tuple #[]) Tbj rfl ⟨rfl,rfl⟩
theorem MO (A:Option Addr)(cap:Nat)(w:World):
  ar 70 #[.slice A 0 cap,af 0,.func (.func 39) #[aw gp] #[]] w (wJ w):=by
 go_enter Tryz.func70,Tryz.ntmps70;go_wp2_with fail;go_loopw [7,8] (λ av bv wr=>av=af 0/\bv=af 20/\wr=w) (λ _ _ _=>0);case atStart=>exact⟨rfl,rfl,rfl⟩
 case round=>
  obtain⟨rfl,rfl,rfl⟩:=hrel;go_wp2_with fail;refine(Dk A cap _).mono ?_;rintro e_ w1 ⟨rfl,rfl⟩;go_wp2_with fail;go_loopw [6] (λ sv wr=>sv=af 20/\wr=w1) (λ _ _=>0);case atStart=>exact Zfo
  case round=>obtain⟨rfl,rfl⟩:=hrel;go_wp2_with fail;exact bodyPost_ret (v:=.tuple #[]) Tbn rfl ⟨rfl,rfl⟩
theorem Ad (A:Option Addr)(cap:Nat)(w:World):
  ar 38 #[.slice A 0 cap,.func (.func 39) #[aw gp] #[]] w (wJ w):=by go_enter Tryz.func38,Tryz.ntmps38;go_wp2_with fail;refine(MO A cap w).mono ?_;rintro e_ w1 ⟨rfl,rfl⟩;go_wp2_with fail;exact bodyPost_ret (v:=.tuple #[]) Tbo rfl ⟨rfl,rfl⟩
end Go.Proofs.YtndgjggokjickaaGreatDoor.L
namespace Go.Proofs.YtndgjggokjickaaGreatDoor
variable{p:Prop}
set_option maxHeartbeats 90000000
set_option maxRecDepth 100000
open Go.ChangeShapes Go.WideShapes Go.ChangeAt Go.RowKit List
set_option linter.unusedVariables false
set_option linter.unusedSimpArgs false
noncomputable def ez:Code:=Tryz.f11.body.getD .skip
def XN (f:Nat->Value):Array Value:= #[f 0,f 1,f 2,f 3,f 4,f 5,f 6,f 7,f 8,f 9,f 10,f 11,f 12,f 13,f 14,f 15,f 16,f 17,f 18,f 19,f 20,f 21,f 22,f 23,f 24,f 25,f 26,f 27,f 28,f 29,f 30,f 31,f 32,f 33,f 34,f 35,f 36,f 37,f 38,f 39,f 40,f 41,f 42,f 43,f 44,f 45,f 46,f 47,f 48,f 49,f 50,f 51,f 52,f 53,f 54,f 55,f 56,f 57,f 58,f 59,f 60,f 61,f 62,f 63,f 64,f 65,f 66,f 67,f 68,f 69,f 70,f 71,f 72,f 73,f 74,f 75,f 76,f 77,f 78,f 79,f 80,f 81,f 82,f 83,f 84,f 85,f 86,f 87,f 88,f 89,f 90,f 91,f 92,f 93,f 94,f 95,f 96,f 97,f 98,f 99,f 100,f 101,f 102,f 103,f 104,f 105,f 106,f 107,f 108,f 109,f 110,f 111,f 112,f 113,f 114,f 115,f 116,f 117,f 118,f 119,f 120,f 121,f 122,f 123,f 124,f 125,f 126,f 127,f 128,f 129,f 130,f 131,f 132,f 133,f 134,f 135,f 136,f 137,f 138,f 139,f 140,f 141,f 142,f 143,f 144,f 145,f 146,f 147,f 148,f 149,f 150,f 151,f 152,f 153,f 154,f 155,f 156,f 157,f 158,f 159,f 160,f 161,f 162,f 163,f 164,f 165,f 166,f 167,f 168,f 169,f 170,f 171,f 172,f 173,f 174,f 175,f 176,f 177,f 178,f 179,f 180,f 181,f 182]
theorem ym (T:Array Value)(h:T.size=183):∃f:Nat->Value,T=XN f:=by
 refine⟨λ i=>T.getD i undef,?_⟩;apply Array.ext
 ·rw[h];rfl
 ·intro i h1 h2
  have e:∀(f:Nat->Value) (i:Nat) (hi:i <(XN f).size),(XN f)[i]=f i:=by
   intro f i hi;have h3:(XN f).toList=(List.range 183).map f:=rfl;have h4:(XN f)[i]=(XN f).toList[i]' TaD:=by simp
   exact ZfH
  rw[e];simp[Array.getD,h1]
def aiL (w:World)(LA:Option Addr)(n:Nat)(D:Nat->aX×aX):Prop:=n=0\/∃g,LA=some ⟨g,0,none⟩/\g < w.heap.size/\∀i,i < n->w.cell? ⟨g,i*2,none⟩=some (.slice (D i).1.A (D i).1.l.length (D i).1.c)/\w.cell? ⟨g,i*2+1,none⟩=some (.slice (D i).2.A (D i).2.l.length (D i).2.c)
def rowsOf (D:Nat->aX×aX)(n:Nat):List aX:=(List.range n).map λ i=>(D i).1
theorem MP (D:Nat->aX×aX)(n:Nat):rowsOf D (n+1)=rowsOf D n++ [(D n).1]:=by unfold rowsOf;rw[range_succ,map_append];rfl
theorem Dl (D:Nat->aX×aX)(n:Nat):(rowsOf D n).length=n:=by simp[rowsOf]
theorem zg1.KbQ(h:p:=by
 obtain⟨OA,oc,Ln,_⟩:=HO.ae.reads;subst Ln;have HOX:=HO;have avq:=HO.ae.other Mi.ae Taa;clear HO;go_wp2_with fail;refine HH.ae _ _ (.slice OA (rowsOf D k).length oc) rfl rfl rfl (((Mi.ae.aU 0 _).aU 1 _).aU 2 _) ?_ (aC (aC (aC (aR hb) _ _) _ _) _ _);refine HOX.ae.keep λ KK Kx=>?_
 have hn:KK≠g6:=λ e=>avq TaT
 rw[Below.heap_setCell _ ⟨g6,2,none⟩ _ KK hn,Below.heap_setCell _ ⟨g6,1,none⟩ _ KK hn,Below.heap_setCell _ ⟨g6,0,none⟩ _ KK hn]):p:=h
theorem adt (gp g6 n lc:Nat)(LA:Option Addr)(D:Nat->aX×aX)(HA:Option Addr)(hn hc:Nat)(T:Array Value)(hT:T.size=183)(h6:T.getD 6 undef=aw g6)(h8:T.getD 8 undef=aw gp)(Wf:T.getD 13 undef=.slice LA n lc)(d:List Deferred)(w:World)(Q:Exit->Act->World->Prop)
  (tY:n<=1000000) (sx:gp < w.heap.size) (hch:w.cell? ⟨gp,12,none⟩=some (.slice HA hn hc)) (rH:aB w g6 33 #[az,az,af 0]) (hL:aiL w LA n D)
  (h:∀a W ov,a.defers=d->a.tmps.getD 6 undef=aw g6->a.tmps.getD 7 undef=af 0->aB W g6 33 #[.slice HA hn hc,ov,af n]->aF bX 38 1 W w.heap.size ov (rowsOf D n)->w.grownBy W (some g6)->Q .ret a W):
  (fA ez 14).wp Tryz.prog Q { tmps:=T,defers:=d } w:=by
 obtain⟨f,rfl⟩:=ym T hT;have h6:f 6=_:=h6;have h8:f 8=_:=h8;have Wf:f 13=_:=Wf;simp only[XN,h6,h8,Wf];clear h6 h8 Wf;clear h6 h8 Wf hT;have HH:=aa h;have wV:=aa rH;have HL:=aa hL;have b1:=ah w (.cells #[.slice HA hn hc,az,af n] 33);have cJ:=aB.new w 33 #[.slice HA hn hc,az,af n];have eB:=aa b1;have HX:=aa cJ;clear h rH hL b1 cJ;simp only[ez,fA,Tryz.f11,Option.getD_some];go_upto_region 33 with fail;clear hch sx;obtain⟨g,hg⟩:∃g,g=w.heap.size:=⟨_,rfl⟩;rw[<- hg] at HX ⊢;have vU:=aa hg;clear hg;generalize w.alloc _=W1 at*;go_wp2_with fail;go_loopw [170] (λ i wr=>∃(k:Nat) (ov:Value),k<=n/\i=af k/\aB wr g 33 #[.slice HA hn hc,ov,af n]/\aF bX 38 1 wr w.heap.size ov (rowsOf D k)/\aj w wr) (λ i _=>n - (intOf i).toNat);case atStart=>exact⟨0,_,Nat.zero_le _,rfl,HX.ae,aF.nil,eB.ae⟩
 case round=>
  clear eB HX;obtain⟨k,ov,hk,rfl,hR,hO,hb⟩:=hrel;have Q3:=aa hR;have HO:=aa hO;clear hR hO;by_cases hlt:k < n
  ·obtain⟨lb,hA,DT,cf⟩:∃KK,LA=some ⟨KK,0,none⟩/\KK < w.heap.size/\∀i,i < n->w.cell? ⟨KK,i*2,none⟩=some (.slice (D i).1.A (D i).1.l.length (D i).1.c)/\w.cell? ⟨KK,i*2+1,none⟩=some (.slice (D i).2.A (D i).2.l.length (D i).2.c):=by
    rcases HL.ae with h | h
    ·omega
    ·exact h
   obtain⟨z0,z1⟩:=cf k hlt;have y0:=(hb.cell (p:=⟨lb,k*2,none⟩) DT).trans z0;have y1:=(hb.cell (p:=⟨lb,k*2+1,none⟩) DT).trans z1;subst hA;have HS:=aa (MP D k);have xZ:=aa (Dl D k);generalize (D k).1=r at*;generalize (D k).2=s at*;generalize rowsOf D k=rs at*;clear DT cf z0 z1;go_upto_region 36 with fail;have b1:=ah wr (.cells #[.slice r.A r.l.length r.c,.slice s.A s.l.length s.c] 91);have cJ:=aB.new wr 91 #[.slice r.A r.l.length r.c,.slice s.A s.l.length s.c];have cb:=cJ.cell 0;simp only[getElem?_toArray,getElem?_cons_zero] at cb;have VF:=aa (Q3.ae.later b1);have xP:=aa (HO.ae.later b1);have hb1:=ai.then hb b1;have HK:=aa cJ;clear b1 Q3 HO hb cJ y0 y1;generalize hw1:wr.alloc (.cells #[.slice r.A r.l.length r.c,.slice s.A s.l.length s.c] 91)=W2 at*;generalize wr.heap.size=gl at*;clear hw1;have a1:=VF.ae.cell 1;simp only[Uaa] at a1;have b3:=ah W2 (.cells #[.slice r.A r.l.length r.c] 38);have hG:=aB.new W2 38 #[.slice r.A r.l.length r.c];have Xx:=aa (VF.ae.later b3);have FU:=aa (xP.ae.later b3);have hb2:=ai.then hb1 b3
   have HG:=aa hG;have hbase:=hb2.size;have lS:=xZ.ae;clear b3 hG VF xP;go_wp2_with (first
    |(at_builtin
      refine aT rfl (.tmp 175) (.tmp 178) 29 rfl _ 24 Tryz.underlying29 nR rfl WC r rfl Taw rfl FU.ae W2.heap.size rfl HG.ae WC WC hbase ?_
      intro v4 w4 o4 g4
      obtain⟨A4,c4,hv4,_⟩:=o4.reads
      rw[length_append,length_singleton,lS] at hv4
      subst hv4
      have G4:=aa (Xx.ae.kr FU.ae Taa g4)
      have gc:=G4.ae.cell 1
      have gf:=G4.ae.frozen 1
      simp only[Uaa] at gc
      have B4:=aa (bj FU.ae g4 hbase)
      have O4:=aa o4
      clear o4 g4))
   go_roundw;case rel=>have hgn:=O4.ae.other G4.ae Taa;refine⟨k+1,_,hlt,by go_num,G4.ae.aU 1 _,?_,(hb2.trans B4.ae).setCell TaR _⟩;rw[HS.ae];exact O4.ae.keep λ KK Kx=>Below.heap_setCell _ ⟨g,1,none⟩ _ KK (λ e=>hgn TaT)
   case measure=>exact Za0
  ·have fw:k=n:=by omega
   subst fw;have a0:=Q3.ae.cell 0;have a1:=Q3.ae.cell 1;have a2:=Q3.ae.cell 2;simp only[Uaa] at a0 a1 a2;have Mi:=aa (show aB wr g6 33 #[az,az,af 0] from(hb.block g6 wV.ae.lt).trans wV.ae);open zg1 in exact ZeI
def eO (x:aX×aX):List Value:=[.slice x.1.A x.1.l.length x.1.c,.slice x.2.A x.2.l.length x.2.c]
def MQ (x:aX×aX):fC:=⟨x.1.l,x.2.l⟩
theorem Tl:(Tryz.prog.info? 91).map (λ i=>(i.zero,i.size,i.bytes))=some (some (.agg #[az,az]),2,48):=by exact Zgn
variable{ds:List Bool}{gp:Nat}
def toD(x:aX×aX):L.aP ds gp:=⟨x.1,x.2⟩
variable{w w':World}{A:Option Addr}{l:List Val}
theorem bL.later(h:bL w A l)(hb:aj w w'):bL w' A l:=h.keep hb.size λ b cur hc=>hb.block b hc.lt
variable{α:Type}{f:α->List Value}{e:TypeId}{size base:Nat}{k:List Val}
theorem bL.own{v:Value} {l:List α}   (h:bL w A k)(ho:aF f e size w base v l)(he:44≠e)(hg:w.grownBy w' v.ownBlock):bL w' A k:=
 h.keep hg.size λ b cur hc=>hg.block b hc.lt λ e2=>ho.other hc he e2.symm
def Q0 (ord:List (Tr×Bool))(LA:Option Addr)(dK:List (aX×aX))(lv:Value)(w:World)(e:Ending)(w':World):Prop:=
 e=.returned (.tuple #[])/\∃E:Nat->aX×aX,aiL w' LA dK.length E/\((List.range dK.length).map λ i=>MQ (E i)).map fC.row=(mO (ord.map λ o=>o.2) (dK.map MQ)).map fC.row/\(∀i,i < dK.length->E i∈dK)/\w.grownBy w' lv.ownBlock
theorem Tm:∀(l:List (aX×aX)) (i:Nat) x,l[i]?=some x->(l.flatMap eO)[i*2]?=some (.slice x.1.A x.1.l.length x.1.c)/\(l.flatMap eO)[i*2+1]?=some (.slice x.2.A x.2.l.length x.2.c)
 | [],i,x,h=>by simp at h
 | y::l,0,x,h=>by simp at h;subst h;exact⟨rfl,rfl⟩
 | y::l,i+1,x,h=>by
   have:=Tm l i x Tak;rw[flatMap_cons];rw[getElem?_append_right (by simp[eO];omega),getElem?_append_right (by simp[eO];omega)];have e1:(i+1)*2 - (eO y).length=i*2:=by simp[eO];omega
   have e2:(i+1)*2+1 - (eO y).length=i*2+1:=by simp[eO];omega
   rw[e1,e2];exact this
theorem QI (gp:Nat)(ord:List (Tr×Bool))(oA:Option Addr)(on oc:Nat)(dK:List (aX×aX))(base:Nat)(LA:Option Addr)(lc:Nat)(w:World)(tY:dK.length<=1000)(hon:ord.length<=1599289640356)(sx:gp < w.heap.size)(BW:w.cell? ⟨gp,6,none⟩=some (.slice oA on oc))(hgt:∃cs,aB w gp 81 cs)(hO:eP w (ord.map λ x=>(x.1,Value.bool x.2)) oA on)
  (hOt:∀b,base<=b->∀w',w.grownBy w' (some b)->eP w' (ord.map λ x=>(x.1,Value.bool x.2)) oA on)
  (XG:aF eO 91 2 w base (.slice LA dK.length lc) dK) (rO:∀x∈dK,bL w x.1.A x.1.l/\bL w x.2.A x.2.l/\x.1.l.length<=1000/\x.2.l.length=ord.length):
  ar 38 #[.slice LA dK.length lc,.func (.func 39) #[aw gp] #[]] w (Q0 ord LA dK (.slice LA dK.length lc) w):=by
 by_cases h0:dK=[]
 ·subst h0;refine(L.Ad LA lc w).mono ?_;rintro e w' ⟨rfl,rfl⟩;exact⟨rfl,λ _=>(⟨none,[],0⟩,⟨none,[],0⟩),.inl rfl,rfl,λ i hi=>by simp at hi,⟨rfl,rfl,rfl,Nat.le_refl _,λ _ _ _=>rfl⟩⟩
 ·have hlen:0 < dK.length:=List.length_pos_iff.2 h0;obtain⟨Ht,h1 |⟨g,cap,cur,hv,hbg,hg,hlc,hm,hsz,lN⟩⟩:=XG
  ·omega
  ·injection hv with e1 _ e2;subst e1 e2;have hD0:∀i,i < dK.length->∃x,dK[i]?=some x:=λ i hi=>⟨_,getElem?_eq_getElem hi⟩
   let d0:aX×aX:=(⟨none,[],0⟩,⟨none,[],0⟩);let D:Nat->L.aP (ord.map λ o=>o.2) gp:=λ i=>toD (dK.getD i d0)
   have Kb:∀i (hi:i < dK.length),dK.getD i d0=dK[i]:=λ i hi=>by rw[getD_eq_getElem?_getD,getElem?_eq_getElem hi];rfl
   have nd:∀(j:Nat) v,(dK.flatMap eO)[j]?=some v->cur[j]?=some v:=λ j v hj=>by
    rw[<- Array.getElem?_toList];have:(cur.toList.take (dK.length*2))[j]?=some v:=by rw[lN];exact hj
    rw[getElem?_take] at this;split at this
    ·exact this
    ·cases this
   have hAt:L.At w g dK.length D:=by
    refine⟨cur,hg,?_,λ i hi=>?_⟩
    ·rw[hsz];exact Nat.mul_le_mul_right 2 hlc
    ·obtain⟨f1,f2⟩:=Tm dK i dK[i] (getElem?_eq_getElem hi);refine⟨(nd _ _ f1).trans ?_,(nd _ _ f2).trans ?_⟩
     ·show _=some (Value.slice (dK.getD i d0).1.A (dK.getD i d0).1.l.length (dK.getD i d0).1.c);rw[Kb i hi]
     ·show _=some (Value.slice (dK.getD i d0).2.A (dK.getD i d0).2.l.length (dK.getD i d0).2.c);rw[Kb i hi]
   have hRN:∀r:aX,bL w r.A r.l->L.RN w g r:=λ r hr=>by
    rcases hr.rv with h |⟨b,off,e1,e2,e3⟩
    ·exact .inl h
    ·obtain⟨cs,hcs⟩:=hr.ty _ e1;exact .inr ⟨b,off,e1,e2,λ e=>by have:=kM hcs hg Taa;exact this e,e3⟩
   have aiM:∀k,k < dK.length->L.RN w g (D k).row/\L.RN w g (D k).keys/\(D k).row.l.length<=1000/\(D k).keys.l.length=(ord.map λ o=>o.2).length:=λ k hk=>by
    have hx:=rO dK[k] (getElem_mem hk);have e:D k=toD dK[k]:=by show toD (dK.getD k d0)=_;rw[Kb k hk]
    rw[e];exact⟨hRN _ hx.1,hRN _ hx.2.1,hx.2.2.1,by rw[length_map];exact hx.2.2.2⟩
   have eh:gp≠g:=by obtain⟨cs,hcs⟩:=hgt;exact kM hcs hg Taa
   have avr:L.afP (ord.map λ o=>o.2) gp w g:=λ x y W hW r1 r2 r3 r4 l1 l2 l3 l4=>by rw[length_map] at l3 l4;have hc:=MK gp ord oA on oc ⟨x.row,x.keys⟩ ⟨y.row,y.keys⟩ W hon (Nat.lt_of_lt_of_le sx hW.size) ((bH (hW.block gp sx (λ e=>eh Tbi)) 6).trans BW) (hOt g hbg W hW) ⟨r1.rv hW,r2.rv hW,l3,l1⟩ ⟨r3.rv hW,r4.rv hW,l4,l2⟩;exact hc
   refine(L.Dj w g dK.length lc D w ⟨hAt,World.grownBy.refl w _,aiM,avr⟩ tY).mono ?_;rintro e w' ⟨rfl,E,hS,hSw,hSr⟩;refine⟨rfl,λ i=>((E i).row,(E i).keys),.inr ⟨g,rfl,Nat.lt_of_lt_of_le (show aB w g 91 cur from hg).lt hS.grown.size,λ i hi=>⟨hS.at_.cell i hi,hS.at_.dG i hi⟩⟩,?_,λ i hi=>?_,hS.grown⟩
   ·have hD:((List.range dK.length).map D).map (λ x:L.aP (ord.map λ o=>o.2) gp=>x.s)=dK.map MQ:=by
     rw[map_map];apply ext_getElem
     ·simp
     ·intro i i1 i2;have hi:i < dK.length:=by simpa using i2
      simp only[getElem_map,getElem_range];show(toD (ds:=ord.map λ o=>o.2) (gp:=gp) (dK.getD i d0)).s=MQ dK[i];rw[Kb i hi];rfl
    have hE:((List.range dK.length).map λ i=>MQ ((E i).row,(E i).keys))=((List.range dK.length).map E).map (λ x:L.aP (ord.map λ o=>o.2) gp=>x.s):=by rw[map_map];rfl
    rw[hE];have hp:(((List.range dK.length).map E).map (λ x:L.aP (ord.map λ o=>o.2) gp=>x.s)).Perm (dK.map MQ):=by rw[<- hD];exact(hSw.perm (Nat.le_refl _)).map _
    unfold mO;refine OG (pB _) fC.row (λ x y h=>PO h) _ _ (hp.trans (oT _ _).symm) ?_ (vH (pB _) _);rw[pairwise_map,pairwise_iff_getElem];intro i j hi hj nL;simp at hi hj;simp only[getElem_map,getElem_range];exact hSr i j WC nL hj
   ·obtain⟨k',_,Rv,he⟩:=hSw.mem i (Nat.zero_le _) hi;show((E i).row,(E i).keys)∈dK;rw[he];show((toD (ds:=ord.map λ o=>o.2) (gp:=gp) (dK.getD k' d0)).row,(toD (ds:=ord.map λ o=>o.2) (gp:=gp) (dK.getD k' d0)).keys)∈dK;rw[Kb k' Rv];exact getElem_mem Rv
theorem Wh (u:World):(sizeOf (Tryz.prog.elem 85)).run Tryz.prog u=.ok 2 u:=by exact Zgn
theorem Wi (A1:Option Addr)(n c1 k:Nat)(hk:k<=c1)(u:World):(Instr.slice 85 (.slice A1 n c1) none (some (af k)) none).run Tryz.prog u=.ok (.slice A1 k c1) u:=by rw[run_slice_h u 85 A1 n c1 Tryz.underlying85 .i64 k WC WC,Wh];exact Zg6
theorem zcX.Kax(h:p:=by
 clear J3 h hF ih q1 q2 q3 q4 q5 Au Tn C3 hz Nj BW Kx hOt;have hh:=λ(n:Nat) (vz:n<=1000) D T hT h6 h8 Wf d w1 Q=>adt gp g6 n lc LA D HA hn hc T hT h6 h8 Wf d w1 Q WC
 simp only[ez,fA,Tryz.f11,Option.getD_some] at hh;have aiP:=aa hh;clear hh;simp only[ez,fA,Tryz.f11,Option.getD_some];refine wp_seq_k λ K hK=>?_
 have DM:=aa hK;clear hK;go_wp2_with fail;refine HSO.ae.mono ?_;rintro e w1 ⟨rfl,E,hE,hs,hm,hg⟩;have HE:=aa hE;have Ly:=aa hs;have HM:=aa hm;have HG:=aa hg;clear hE hs hm hg HSO;go_wp2_with fail;refine DM.ae _ _ ?_;clear DM;have aiQ:w1.cell? ⟨gp,12,none⟩=some (.slice HA hn hc):=by obtain⟨cs,hcs⟩:=Q1.ae;exact(bH (HG.ae.block gp HFN.ae λ e=>HF.ae.other hcs Taa e.symm) 12).trans Q3.ae
 have hk7:w1.cell? ⟨g3,7,none⟩=some (.slice lA lim.length lc2):=by obtain⟨cs,hcs⟩:=Q5.ae;exact(bH (HG.ae.block g3 hcs.lt λ e=>HF.ae.other hcs Taa e.symm) 7).trans Q4.ae
 have hb1:Below base w w1:=bj HF.ae HG.ae gX.ae;have QJ:=aa (show aB w1 g6 33 #[az,az,af 0] from IH.ae.kr HF.ae Taa HG.ae);have Im:gp < w1.heap.size:=Nat.lt_of_lt_of_le HFN.ae HG.ae.size
 have hO:∀(n:Nat) (TW:n<=dK.length) (afT:((List.range n).map λ i=>MQ (E i)).map fC.row=((match lim with | []=>mO (ord.map λ o:Tr×Bool=>o.2) (dK.map MQ)| n::_=>(mO (ord.map λ o:Tr×Bool=>o.2) (dK.map MQ)).take n.toNat).map fC.row)) (a:Act) W ov,a.defers=d->a.tmps.getD 6 undef=aw g6->a.tmps.getD 7 undef=af 0->aB W g6 33 #[.slice HA hn hc,ov,af n]->aF bX 38 1 W w1.heap.size ov (rowsOf E n)->w1.grownBy W (some g6)->Q .ret a W:=by
  intro n TW afT a W ov e1 e2 e3 k6 oW gW;refine HS.ae a W ov (rowsOf E n) e1 e2 e3 (by rw[Dl];exact k6) (oW.down (Nat.le_trans gX.ae HG.ae.size)) (λ r hr=>?_) ?_ ?_
  ·unfold rowsOf at hr;obtain⟨i,hi,rfl⟩:=List.mem_map.1 hr;have hi:i < n:=List.mem_range.1 hi;have hx:=G9.ae _ (HM.ae i WC);exact(hx.1.own HF.ae Taa HG.ae).keep gW.size λ b cur xT=>gW.block b xT.lt λ e=>by injection e with e;subst e;exact kM xT QJ.ae Taa rfl
  ·rw[<- afT];unfold rowsOf;rw[map_map,map_map];rfl
  ·exact⟨w1,HG.ae,gW⟩
 have HO:=aa hO;clear hO;refine wp_seq_k λ K hK=>?_
 have DM:=aa hK;clear hK;rcases lim with _ |⟨n,_ |⟨n2,lim⟩⟩
 ·have lZ:=HO.ae dK.length (Nat.le_refl _) Ly.ae;clear HO;have LT:=aa lZ;clear lZ;go_wp2_with fail;exact DM.ae _ _ (aiP.ae dK.length tY E _ rfl rfl rfl rfl d w1 Q Im aiQ QJ.ae HE.ae λ a W ov e1 e2 e3 k6 oW gW=>LT.ae a W ov e1 e2 e3 k6 oW gW)
 ·obtain⟨n0,n1⟩:=F2.ae n Tac;obtain hl2 |⟨lb,lo,hA,DT,cf⟩:=oy.ae
  ·cases hl2
  ·have hl0:=cf 0 n rfl;have C3:w1.cell? ⟨lb,lo,none⟩=some (af n):=by rw[Nat.add_zero] at hl0;refine(bH (HG.ae.block lb (Nat.lt_of_lt_of_le DT gX.ae) λ e=>?_) lo).trans hl0;have:=(HF.ae.lt e.symm).2.1;omega
   subst hA;obtain⟨k,hk⟩:∃k:Nat,n=k:=⟨n.toNat,by omega⟩;subst hk;have hs2:=Wi LA dK.length lc (min dK.length k) WC w1;have lZ:=HO.ae (min dK.length k) (Nat.min_le_left _ _) (by
    have h1:=congrArg (List.take k) Ly.ae
    rw[<- map_take,<- map_take,<- map_take,take_range] at h1
    rw[Nat.min_comm]
    exact h1)
   have mD:aiL w1 LA (min dK.length k) E:=by
    rcases HE.ae with h |⟨g,KK,Lw,LE⟩
    ·exact .inl WC
    ·exact .inr ⟨g,KK,Lw,λ i hi=>LE i WC⟩
   have LT:=aa lZ;have AD:=aa mD;clear lZ mD HO hl0 DT cf oy;by_cases hlt:k < dK.length
   ·have AK:min dK.length k=k:=by omega
    rw[AK] at hs2 LT AD;have sX:((k:Int)<(dK.length:Int)):=by omega
    go_wp2_with fail;have hmt:(min (dK.length:Int) (k:Int)).toNat=k:=by omega
    simp only[hmt];exact DM.ae _ _ (aiP.ae k WC E _ rfl rfl rfl rfl d w1 Q Im aiQ QJ.ae AD.ae λ a W ov e1 e2 e3 k6 oW gW=>LT.ae a W ov e1 e2 e3 k6 oW gW)
   ·have AK:min dK.length k=dK.length:=by omega
    rw[AK] at hs2 LT AD;have sX:¬((k:Int)<(dK.length:Int)):=by omega
    go_wp2_with fail;have hmt:(min (dK.length:Int) (k:Int)).toNat=dK.length:=by omega
    simp only[hmt];exact DM.ae _ _ (aiP.ae dK.length WC E _ rfl rfl rfl rfl d w1 Q Im aiQ QJ.ae AD.ae λ a W ov e1 e2 e3 k6 oW gW=>LT.ae a W ov e1 e2 e3 k6 oW gW)
 ·have:=Ag.ae;simp at this):p:=h
theorem Q6 (gp g3 g6:Nat)(ord:List (Tr×Bool))(oA:Option Addr)(on oc:Nat)(lim:List Int)(lA:Option Addr)(lc2:Nat)(dK:List (aX×aX))(base:Nat)(LA:Option Addr)(lc:Nat)(HA:Option Addr)(hn hc:Nat)(T:Array Value)(hT:T.size=183)(h3:T.getD 3 undef=aw g3)(h6:T.getD 6 undef=aw g6)(h8:T.getD 8 undef=aw gp)(Wf:T.getD 13 undef=.slice LA dK.length lc)(d:List Deferred)(w:World)(Q:Exit->Act->World->Prop)
  (tY:dK.length<=1000) (hon:ord.length<=1599289640356) (q2:gp < w.heap.size) (q3:w.cell? ⟨gp,12,none⟩=some (.slice HA hn hc)) (BW:w.cell? ⟨gp,6,none⟩=some (.slice oA on oc)) (q1:∃cs,aB w gp 81 cs) (Kx:eP w (ord.map λ x=>(x.1,Value.bool x.2)) oA on)
  (hOt:∀b,base<=b->∀w',w.grownBy w' (some b)->eP w' (ord.map λ x=>(x.1,Value.bool x.2)) oA on)
  (q4:w.cell? ⟨g3,7,none⟩=some (.slice lA lim.length lc2)) (q5:∃cs,aB w g3 27 cs) (Au:lim=[]\/∃b off,lA=some ⟨b,off,none⟩/\b < base/\∀i x,lim[i]?=some x->w.cell? ⟨b,off+i,none⟩=some (af x)) (Tn:∀n∈lim,0<=n/\n<=9223372036854775807) (C3:lim.length<=1)
  (ih:aB w g6 33 #[az,az,af 0]) (hz:base<=w.heap.size)
  (hF:aF eO 91 2 w base (.slice LA dK.length lc) dK) (Nj:∀x∈dK,bL w x.1.A x.1.l/\bL w x.2.A x.2.l/\x.1.l.length<=1000/\x.2.l.length=ord.length)
  (h:∀a W ov (out:List aX),a.defers=d->a.tmps.getD 6 undef=aw g6->a.tmps.getD 7 undef=af 0->aB W g6 33 #[.slice HA hn hc,ov,af out.length]->aF bX 38 1 W base ov out->(∀r∈out,bL W r.A r.l)->out.map (·.l)=((match lim with | []=>mO (ord.map λ o:Tr×Bool=>o.2) (dK.map MQ)| n::_=>(mO (ord.map λ o:Tr×Bool=>o.2) (dK.map MQ)).take n.toNat).map fC.row)->(∃wm,w.grownBy wm (Value.slice LA dK.length lc).ownBlock/\wm.grownBy W (some g6))->Q .ret a W):
  (fA ez 12).wp Tryz.prog Q { tmps:=T,defers:=d } w:=by
 obtain⟨f,rfl⟩:=ym T hT;have h3:f 3=_:=h3;have h6:f 6=_:=h6;have h8:f 8=_:=h8;have Wf:f 13=_:=Wf;simp only[XN,h3,h6,h8,Wf];clear h3 h6 h8 Wf;clear h3 h6 h8 Wf hT;have J3:=QI gp ord oA on oc dK base LA lc w tY hon q2 BW q1 Kx hOt hF Nj;have hle:dK.length<=lc:=by obtain⟨_,_,e,_,hl,_⟩:=hF.reads;injection e with _ _ e;rw[e];exact hl
 have HSO:=aa J3;have HS:=aa h;open zcX in exact Zbb
end Go.Proofs.YtndgjggokjickaaGreatDoor
