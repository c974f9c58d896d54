/- Parts of the proof. -/
import Derived.Test.YtndgjggokjickaaGreatDoorXO8
namespace Go.Proofs.YtndgjggokjickaaGreatDoor
variable{p:Prop}
set_option maxHeartbeats 90000000
set_option maxRecDepth 100000
open Go.ChangeShapes Go.WideShapes Go.ChangeAt Go.RowKit List
set_option linter.unusedVariables false
set_option linter.unusedSimpArgs false
theorem zfl.Kbg(h:p:=by obtain⟨y,sb⟩:=yb;dsimp only at*;have HS:=aa hS;have oK:=aa gj;clear hS gj;skip;exact Zfc):p:=h
theorem JI (gc:Nat)(A:Option Addr)(c:Nat)(args:List (aW×Bool))(w:World)(hl:args.length<=1599289640356)(hA:RR w w.heap.size A (args.map (·.1)))(hE:∀a∈args,∀W,aj w W->ar 30 #[.slice a.1.A a.1.l.length a.1.c,aw gc] W λ e w'=>e=.returned (.bool a.2)/\aj W w'):
  ar 62 #[.slice A args.length c,.func (.func 30) #[] #[.pointer (some ⟨gc,0,none⟩)]] w λ e w'=>e=.returned (.int .i64 (fT (args.map (·.2))))/\aj w w':=by
 have HA:=aa hA;have HE:=aa hE;clear hA hE;go_enter Tryz.func62,Tryz.ntmps62;go_wp2_with fail;go_loopw [5,8] (λ _ i wr=>∃k:Nat,k<=args.length/\i=af k/\(∀j,j < k->(args.map (·.2)).getD j false=false)/\aj w wr) (λ _ i _=>args.length - (intOf i).toNat);case atStart=>exact Zfd
 case round=>
  obtain⟨k,hk,rfl,hp,hb⟩:=hrel;have HP:=aa hp;clear hp;by_cases hlt:k < args.length
  ·open zfl in exact Zdt
  ·exact Zdj
theorem Af (gc:Nat)(A:Option Addr)(c:Nat)(args:List (aW×Bool))(w:World)(hl:args.length<=1599289640356)(hA:RR w w.heap.size A (args.map (·.1)))(hE:∀a∈args,∀W,aj w W->ar 30 #[.slice a.1.A a.1.l.length a.1.c,aw gc] W λ e w'=>e=.returned (.bool a.2)/\aj W w'):
  ar 29 #[.slice A args.length c,.func (.func 30) #[] #[.pointer (some ⟨gc,0,none⟩)]] w λ e w'=>e=.returned (.bool ((args.map (·.2)).any id))/\aj w w':=by have hi:=JI gc A c args w hl hA hE;rw[vM];clear hA hE;go_enter Tryz.func29,Tryz.ntmps29;exact Za1
theorem MW (gc:Nat)(cols:List aX)(CA:Option Addr)(cc:Nat)(r:aW)(w:World)(hgc:gc < w.heap.size)(hcc:w.cell? ⟨gc,0,none⟩=some (.slice CA cols.length cc))(bU:cols.length<=140737488355328)(kH:r.l.length<=140737488355328)(hC:RC w w.heap.size CA cols)(hV:RV w w.heap.size r.A r.l):
  ar 30 #[.slice r.A r.l.length r.c,aw gc] w λ e w'=>e=.returned (.bool (!iR cols r.l))/\aj w w':=by have h:=Q6 cols CA cc r.l r.A r.c w bU kH hC hV;have HH:=aa h;clear h hC hV bU kH;go_enter Tryz.func30,Tryz.ntmps30;go_wp2_with fail;refine HH.ae.mono ?_;rintro e w1 ⟨rfl,b9⟩;go_wp2_with fail;go_ret;exact⟨rfl,b9⟩
theorem MX (gc:Nat)(cols:List aX)(CA:Option Addr)(cc:Nat)(rows:List aW)(A:Option Addr)(c:Nat)(w:World)(hgc:gc < w.heap.size)(hcc:w.cell? ⟨gc,0,none⟩=some (.slice CA cols.length cc))(bU:cols.length<=140737488355328)(hn:rows.length<=1599289640356)(kH:∀r∈rows,r.l.length<=140737488355328)(hC:RC w w.heap.size CA cols)(hR:RR w w.heap.size A rows):
  ar 29 #[.slice A rows.length c,.func (.func 30) #[] #[.pointer (some ⟨gc,0,none⟩)]] w λ e w'=>e=.returned (.bool (rows.any λ r=> !iR cols r.l))/\aj w w':=by
 have h:=Af gc A c (rows.map λ r=>(r,!iR cols r.l)) w (by simpa using hn) (by simpa [Function.comp_def] using hR) (λ a ha W hW=>by
  obtain⟨r,hr,rfl⟩:=List.mem_map.1 ha
  have uY:RV W W.heap.size r.A r.l:=by
   obtain⟨k,hk,he⟩:=getElem_of_mem hr
   obtain⟨b,off,_,_,_,h5⟩:=(hR.below hW).at_ hk
   rw[he] at h5
   exact h5.more hW.size
  exact MW gc cols CA cc r W (Nat.lt_of_lt_of_le hgc hW.size) ((hW.cell (p:=⟨gc,0,none⟩) hgc).trans hcc) bU (kH r hr) (hC.later hW) uY)
 rw[length_map,map_map,any_map] at h;exact h
def c4V (g4 g5 k b1 o1 b2 o2:Nat)(ka kb:Value)(x y:Val):Nat->World->Value->Prop
 | 0,_,v=>v=ba g4 1
 | 1,_,v=>v=ka
 | 2,_,v=>v=af k
 | 3,_,v=>v=ba b1 (o1+k*3)
 | 4,_,v=>v=.agg (aD x)
 | 5,_,v=>v=ba g5 1
 | 6,_,v=>v=kb
 | 7,_,v=>v=af k
 | 8,_,v=>v=ba b2 (o2+k*3)
 | 9,_,v=>v=.agg (aD y)
 | 10,_,v=>v=af (bI x y)
 | 11,_,v=>v=af (bI x y)
 | _,_,_=>False
theorem Wl (g4 g5 k b1 o1 b2 o2:Nat)(ka kb:Value)(x y:Val):∀i w w' v,c4V g4 g5 k b1 o1 b2 o2 ka kb x y i w v->ai w w'->c4V g4 g5 k b1 o1 b2 o2 ka kb x y i w' v:=by
 intro i w w' v h hl
 match i with
 | 0 | 1 | 2 | 3 | 4 | 5 | 6 | 7 | 8 | 9 | 10 | 11=>exact h
 | n+12=>exact h
structure pU where
 row:aW
 keys:aW
def pU.v (l:pU):Value:=.agg #[.slice l.row.A l.row.l.length l.row.c,.slice l.keys.A l.keys.l.length l.keys.c]
def pU.s (l:pU):eG:=⟨l.row.l,l.keys.l⟩
structure pU.At (w:World) (l:pU) (n:Nat):Prop where
 row:RV w w.heap.size l.row.A l.row.l
 keys:RV w w.heap.size l.keys.A l.keys.l
 len:l.keys.l.length=n
 short:l.row.l.length<=1000
variable{w w':World}{l:pU}{n:Nat}
theorem pU.At.later(h:l.At w n)(hb:aj w w'):l.At w' n:=⟨h.row.later hb,h.keys.later hb,h.len,h.short⟩
variable{x y:Int}
theorem Q7(h:x≠0):nQ x y=x:=if_neg h
theorem GL:nQ 0 y=y:=if_pos rfl
variable{d:Bool}{ds:List Bool}{a b:Val}{la lb:List Val}
theorem QZ:vO (d::ds) (a::la) (b::lb)=nQ (Zt d a b) (vO ds la lb):=rfl
theorem Wm (x y z:Int):nQ (nQ x y) z=nQ x (nQ y z):=by
 unfold nQ;repeat' split
 all_goals first | rfl |(exfalso;omega)| omega
theorem MZ (gp:Nat)(aL:List (Tr×Bool))(oA:Option Addr)(on oc:Nat)(a b:pU)(w:World)(q4:aL.length<=1599289640356)(sB:gp < w.heap.size)(Cj:w.cell? ⟨gp,6,none⟩=some (.slice oA on oc))(hO:eO w (aL.map λ x=>(x.1,Value.bool x.2)) oA on)(oa:a.At w aL.length)(hb:b.At w aL.length):
  ar 39 #[aw gp,a.v,b.v] w λ e w'=>e=.returned (af (BO (aL.map λ x=>x.2) a.s b.s))/\aj w w':=by
 obtain⟨hn,ys,hys,a2,hy3⟩:=hO;rw[length_map] at hn;subst hn;have D9:ys.length=aL.length:=by have:=congrArg List.length a2;simpa using this
 have TG:∀(k:Nat) (z:Ex×Value) (o:Tr×Bool),ys[k]?=some z->aL[k]?=some o->z.2=.bool o.2:=λ k z o hz ho=>by have h1:=congrArg (λ l=>l[k]?) a2;simp only[getElem?_map,hz,ho,Option.map_some] at h1;injection h1
 clear a2 hy3;obtain⟨⟨rA,rl,rc⟩,⟨kA,kl,kc⟩⟩:=a;obtain⟨⟨sA,sl,sc⟩,⟨jA,jl,jc⟩⟩:=b;obtain⟨rt,hrt⟩:∃rt,rt=BO (aL.map λ x=>x.2) (pU.s ⟨⟨rA,rl,rc⟩,⟨kA,kl,kc⟩⟩) (pU.s ⟨⟨sA,sl,sc⟩,⟨jA,jl,jc⟩⟩):=⟨_,rfl⟩;rw[<- hrt];have q5:=oa.len;have Az:=hb.len;dsimp only at q5 Az;unfold pU.v;dsimp only;have apy:rt=nQ (vO ((aL.map λ x=>x.2).drop 0) (kl.drop 0) (jl.drop 0)) (cI rl sl):=hrt;have Lr:=aa apy;clear hrt apy;have Q4:=aa q4;have Q5:=aa q5;have oC:=aa Az;have G6:=aa TG;have Aa:=aa D9;have b1:=ah w (.cells #[.slice rA rl.length rc,.slice kA kl.length kc] 91);have oB:=aB.new w 91 #[.slice rA rl.length rc,.slice kA kl.length kc];have b2:=ah (w.alloc (.cells #[.slice rA rl.length rc,.slice kA kl.length kc] 91)) (.cells #[.slice sA sl.length sc,.slice jA jl.length jc] 91);have HZ:=aB.new (w.alloc (.cells #[.slice rA rl.length rc,.slice kA kl.length kc] 91)) 91 #[.slice sA sl.length sc,.slice jA jl.length jc];replace oB:=oB.later b2;have bb:=ai.then b1 b2;rw[World.size_alloc] at HZ;have sR:=aa (oa.later bb);have HBL:=aa (hb.later bb);have HY:=aa (hys.later bb);have HPO:=aa ((bb.cell (p:=⟨gp,6,none⟩) sB).trans Cj);have Kd:=aa (Nat.lt_of_lt_of_le sB bb.size);have HB:=aa bb;clear oa hb hys Cj sB bb b1 b2 q4 q5 Az TG D9;go_enter Tryz.func39,Tryz.ntmps39;go_upto_region 1 with fail;generalize World.alloc (World.alloc w _) _=W at*;obtain⟨g4,hg4⟩:∃g4,g4=w.heap.size+1:=⟨_,rfl⟩;rw[<- hg4] at HZ ⊢;clear hg4;obtain⟨Lw,Ly⟩:∃Lw,Lw=w.heap.size:=⟨_,rfl⟩;rw[<- Ly] at oB ⊢;clear Ly;have Cj:=HPO.ae;have apz:=aa oB;have apA:=aa HZ
 clear oB HZ;go_wp2_with fail;clear Cj;go_loopw [16] (λ i wr=>∃k:Nat,k<=aL.length/\i=af k/\rt=nQ (vO ((aL.map λ x=>x.2).drop k) (kl.drop k) (jl.drop k)) (cI rl sl)/\aj W wr) (λ i _=>aL.length - (intOf i).toNat);case atStart=>exact⟨0,Nat.zero_le _,rfl,Lr.ae,Below.refl _ _⟩
 case round=>
  clear Lr;obtain⟨k,hk,rfl,hp,hb⟩:=hrel;have HP:=aa hp;clear hp;by_cases hlt:k < aL.length
  ·have aiW:k < kl.length:=by have:=Q5.ae;omega
   have aiX:k < jl.length:=by have:=oC.ae;omega
   have apB:k < ys.length:=by have:=Aa.ae;omega
   obtain⟨bo,oo,rfl,Cr,hex,hd⟩:=(HY.ae.below hb).at_ apB;rw[G6.ae k _ _ (getElem?_eq_getElem apB) (getElem?_eq_getElem hlt)] at hd;obtain⟨b2,o1,Zf,hb1,hx1⟩:=(sR.ae.keys.below hb).at_ aiW;obtain⟨Kx,o2,Ar,hb2,hx2⟩:=(HBL.ae.keys.below hb).at_ aiX;dsimp only at Zf Ar;subst Zf Ar;have IW:=aa (show(aL.map λ x=>x.2).drop k=aL[k].2::(aL.map λ x=>x.2).drop (k+1) by rw[drop_eq_getElem_cons Tak];simp);have Kf:=aa (show kl.drop k=kl[k]::kl.drop (k+1)from drop_eq_getElem_cons aiW);have HD3:=aa (show jl.drop k=jl[k]::jl.drop (k+1)from drop_eq_getElem_cons aiX);generalize aL[k].2=ds at*;generalize kl[k]=x at*;generalize jl[k]=y at*;generalize ys[k]=z at*;obtain⟨z1,z2⟩:=z;dsimp only at hex hd;unfold ck at hex;unfold ed at hx1 hx2;go_upto_region 4 with fail;have Sj:=hx1;have hcy:=hx2;have HG:=aB.new wr 117 #[ag z1.op,ag z1.v.k,af z1.v.n,.string z1.v.s,.string z1.name,af z1.width,.slice z1.A z1.n z1.c,.bool ds];have bV:=ah wr (.cells #[ag z1.op,ag z1.v.k,af z1.v.n,.string z1.v.s,.string z1.name,af z1.width,.slice z1.A z1.n z1.c,.bool ds] 117);have oB:=(apz.ae.later hb).later bV;have HZ:=(apA.ae.later hb).later bV;have Q8:b2 < wr.heap.size:=Nat.lt_of_lt_of_le hb1 hb.size;have Q9:Kx < wr.heap.size:=Nat.lt_of_lt_of_le hb2 hb.size;have HX:=aa (And.intro (bV.cell (p:=⟨b2,o1+k*3,none⟩) Q8 |>.trans Sj.1) (And.intro (bV.cell (p:=⟨b2,o1+k*3+1,none⟩) Q8 |>.trans Sj.2.1) (bV.cell (p:=⟨b2,o1+k*3+2,none⟩) Q8 |>.trans Sj.2.2)));have HYY:=aa (And.intro (bV.cell (p:=⟨Kx,o2+k*3,none⟩) Q9 |>.trans hcy.1) (And.intro (bV.cell (p:=⟨Kx,o2+k*3+1,none⟩) Q9 |>.trans hcy.2.1) (bV.cell (p:=⟨Kx,o2+k*3+2,none⟩) Q9 |>.trans hcy.2.2)))
   have eL:=aa (Nat.lt_of_lt_of_le Q8 bV.size);have fG:=aa (Nat.lt_of_lt_of_le Q9 bV.size);have hB:=ai.then hb bV;generalize wr.alloc _=W2 at*;obtain⟨g8,XK⟩:∃g8,g8=wr.heap.size:=⟨_,rfl⟩;rw[<- XK] at HG ⊢;clear XK hx1 hx2 Sj hcy hex hd bV Q8 Q9 hb;refine bB 12 (c4V Lw g4 k b2 o1 Kx o2 (.slice (some ⟨b2,o1,none⟩) kl.length kc) (.slice (some ⟨Kx,o2,none⟩) jl.length jc) x y) (Wl _ _ _ _ _ _ _ _ _ _ _) T8 T8 T8 ?_ ?_
   ·simp only[take_succ_cons,take_zero];refine⟨Zab,?_,Zab,?_,?_,Zab,?_,Zab,?_,?_,?_,Zab,trivial⟩
    ·intro ρ w3 hc hL hr;have h0:_=_:=hr.1;have c0:=(oB.later hL).cell 1;exact ZaS
    ·intro ρ w3 hc hL hr;have h0:_=_:=hr.1;have h1:_=_:=hr.2.1;have td:(k:Int)<(kl.length:Int):=by omega
     exact aq (w':=w3) (by simp[go_sem,h0,h1,td,aiW,dC];done) ⟨ai.refl _,rfl⟩
    ·intro ρ w3 hc hL hr;have h0:_=_:=hr.1;have y0:=(hL.cell (p:=⟨b2,o1+k*3,none⟩) eL.ae).trans HX.ae.1;have y1:=(hL.cell (p:=⟨b2,o1+k*3+1,none⟩) eL.ae).trans HX.ae.2.1;have y2:=(hL.cell (p:=⟨b2,o1+k*3+2,none⟩) eL.ae).trans HX.ae.2.2;exact Zdp
    ·intro ρ w3 hc hL hr;have h0:_=_:=hr.1;have c0:=(HZ.later hL).cell 1;exact ZaS
    ·intro ρ w3 hc hL hr;have h0:_=_:=hr.1;have h1:_=_:=hr.2.1;have td:(k:Int)<(jl.length:Int):=by omega
     exact aq (w':=w3) (by simp[go_sem,h0,h1,td,aiX,dC];done) ⟨ai.refl _,rfl⟩
    ·intro ρ w3 hc hL hr;have h0:_=_:=hr.1;have y0:=(hL.cell (p:=⟨Kx,o2+k*3,none⟩) fG.ae).trans HYY.ae.1;have y1:=(hL.cell (p:=⟨Kx,o2+k*3+1,none⟩) fG.ae).trans HYY.ae.2.1;have y2:=(hL.cell (p:=⟨Kx,o2+k*3+2,none⟩) fG.ae).trans HYY.ae.2.2;exact Zdp
    ·intro ρ w3 hc hL hr;have h0:_=_:=hr.1;have h1:_=_:=hr.2.1;have e1:=hc.func 18;refine bw (f:=18) (args:= #[.agg (aD x),.agg (aD y)]) (w':=w3) Tao ?_;refine(dY x y w3).mono ?_;exact Zbi
   intro W3 hL;simp only[Uab];rintro a0 - a1 - KK - a3 - a4 - a5 - a6 - a7 - a8 - a9 - FM - _ rfl;simp only[bD,Act.put,Uac];have hst:rt=nQ (Zt ds x y) (nQ (vO ((aL.map λ x=>x.2).drop (k+1)) (kl.drop (k+1)) (jl.drop (k+1))) (cI rl sl)):=by rw[HP.ae,IW.ae,Kf.ae,HD3.ae,QZ,Wm]
   have d7:=(HG.later hL).cell 7;simp only[Uaa] at d7;have hW:=ai.then hB hL;have hvb:=Il x y;have mA:Zt ds x y=if ds=true then -(bI x y)else bI x y:=rfl;rw[mA] at hst;clear mA HG oB HZ HX HYY eL fG hB hL HP IW Kf HD3;generalize bI x y=vv at*;obtain⟨v1,v2⟩:=hvb;by_cases h0:vv=0
   ·subst h0;have q4:=Q4.ae;have HR:=aa (show rt=nQ (vO ((aL.map λ x=>x.2).drop (k+1)) (kl.drop (k+1)) (jl.drop (k+1))) (cI rl sl) by rw[hst];cases ds <;> exact GL);clear hst v1 v2;cases ds
    ·exact ZcE
    ·exact ZcE
   ·cases ds
    ·have hr:rt=vv:=by rw[hst];exact Q7 (by simpa using h0)
     subst hr;have t1:(rt != 0)=true:=by simpa using h0
     have t2:decide (rt=0)=false:=by simpa using h0
     clear hst h0;go_wp2_with fail;go_ret;exact⟨rfl,ai.then HB.ae hW⟩
    ·have hr:rt= -vv:=by rw[hst];exact Q7 Va
     have t1:((-vv) != 0)=true:=by simp;omega
     have t2:decide ((-vv)=0)=false:=by simp;omega
     have HMX:=aa hr;clear hst h0 hr;exact Zg6
  ·have fJ:k=aL.length:=by omega
   have hr:rt=cI rl sl:=by rw[HP.ae,drop_eq_nil_of_le (by rw[length_map];omega)];exact GL
   subst hr;have hra:=(sR.ae.later hb).row;have hrb:=(HBL.ae.later hb).row;dsimp only at hra hrb;have l1:=(apz.ae.later hb).cell 0;have l2:=(apA.ae.later hb).cell 0;simp only[getElem?_toArray,getElem?_cons_zero] at l1 l2;have hrw:=KV rA rc rl sA sc sl wr hra hrb sR.ae.short HBL.ae.short;have HH:=aa hrw;clear hra hrb hrw HP;go_wp2_with fail;refine HH.ae.mono ?_;rintro e w1 ⟨rfl,b9⟩;go_wp2_with fail;go_ret;exact⟨rfl,ai.then HB.ae (ai.then hb b9)⟩
end Go.Proofs.YtndgjggokjickaaGreatDoor
namespace Go.Proofs.YtndgjggokjickaaGreatDoor.L
variable{p:Prop}
set_option maxHeartbeats 90000000
set_option maxRecDepth 100000
open Go.ChangeShapes Go.WideShapes Go.ChangeAt Go.RowKit List
set_option linter.unusedVariables false
set_option linter.unusedSimpArgs false
structure aP (ds:List Bool) (gp:Nat) where
 row:aW
 keys:aW
variable {ds:List Bool} {gp:Nat}
def aP.rv (x:aP ds gp):Value:=.slice x.row.A x.row.l.length x.row.c
def aP.kv (x:aP ds gp):Value:=.slice x.keys.A x.keys.l.length x.keys.c
def aP.s (x:aP ds gp):eG:=⟨x.row.l,x.keys.l⟩
def fY (x y:aP ds gp):Int:=BO ds x.s y.s
theorem GM (x y:aP ds gp):fY y x= -(fY x y):=(mn ds).iz _ _
theorem Wo (x:aP ds gp):fY x x=0:=by have:=GM x x;omega
theorem Ra (x y z:aP ds gp)(h:fY x y<=0)(k:fY y z<=0):fY x z<=0:=(mn ds).trans _ _ _ h k
def RN (w:World)(g:Nat)(r:aW):Prop:=
 r.l=[]\/∃b off,r.A=some ⟨b,off,none⟩/\b < w.heap.size/\b≠g/\∀i x,r.l[i]?=some x->ed w b (off+i*3) x
variable{w w':World}{g:Nat}
theorem RN.rv{r:aW}(h:RN w g r)(hg:w.grownBy w' (some g)):RV w' w'.heap.size r.A r.l:=by exact ZcV
def At (w:World)(g n:Nat)(D:Nat->aP ds gp):Prop:=∃cs,aB w g 91 cs/\n*2<=cs.size/\∀i,i < n->cs[i*2]?=some (D i).rv/\cs[i*2+1]?=some (D i).kv
variable{n:Nat}{D:Nat->aP ds gp}
theorem At.cell(h:At w g n D)(i:Nat)(hi:i < n):w.cell? ⟨g,i*2,none⟩=some (.slice (D i).row.A (D i).row.l.length (D i).row.c):=by obtain⟨cs,hb,_,hc⟩:=h;rw[hb.cell,(hc i hi).1];rfl
theorem At.dH(h:At w g n D)(i:Nat)(hi:i < n):w.cell? ⟨g,i*2+1,none⟩=some (.slice (D i).keys.A (D i).keys.l.length (D i).keys.c):=by obtain⟨cs,hb,_,hc⟩:=h;rw[hb.cell,(hc i hi).2];rfl
theorem At.frozen(h:At w g n D)(i:Nat):w.frozen? ⟨g,i,none⟩=false:=by obtain⟨cs,hb,_,hc⟩:=h;exact hb.frozen i
theorem At.later(h:At w g n D)(hb:aj w w'):At w' g n D:=by obtain⟨cs,h1,h2,h3⟩:=h;exact⟨cs,h1.later hb,h2,h3⟩
def swp (D:Nat->aP ds gp)(i j:Nat):Nat->aP ds gp:=λ k=>if k=j then D i else if k=i then D j else D k
variable{cs:Array Value}{q:Nat}{u:Value}
theorem Tz{p:Nat} {v:Value}:(((cs.setIfInBounds (p*2) u).setIfInBounds (p*2+1) v))[q*2]?=(if q=p then(if p*2 < cs.size then some u else none)else cs[q*2]?)/\(((cs.setIfInBounds (p*2) u).setIfInBounds (p*2+1) v))[q*2+1]?=(if q=p then(if p*2+1 < cs.size then some v else none)else cs[q*2+1]?):=by
 rw[Array.getElem?_setIfInBounds,Array.getElem?_setIfInBounds,Array.getElem?_setIfInBounds,Array.getElem?_setIfInBounds];simp only[Array.size_setIfInBounds];constructor
 ·exact Zhw
 ·exact Zhw
theorem At.swap(h:At w g n D)(i j:Nat)(hi:i < n)(hj:j < n):At (((((w.setCell ⟨g,i*2,none⟩ (D j).rv).setCell ⟨g,i*2+1,none⟩ (D j).kv).setCell ⟨g,j*2,none⟩ (D i).rv).setCell ⟨g,j*2+1,none⟩ (D i).kv).drew) g n (swp D i j):=by
 obtain⟨cs,h1,h2,h3⟩:=h;refine⟨((((cs.setIfInBounds (i*2) (D j).rv).setIfInBounds (i*2+1) (D j).kv).setIfInBounds (j*2) (D i).rv).setIfInBounds (j*2+1) (D i).kv),((((h1.aT (i*2) _).aT (i*2+1) _).aT (j*2) _).aT (j*2+1) _).drew,by simpa using h2,λ k hk=>?_⟩;obtain⟨e0,e1⟩:=h3 k hk;unfold swp;obtain⟨a1,a2⟩:=Tz (cs:=(cs.setIfInBounds (i*2) (D j).rv).setIfInBounds (i*2+1) (D j).kv) (p:=j) (q:=k) (u:=(D i).rv) (v:=(D i).kv);obtain⟨b1,b2⟩:=Tz (cs:=cs) (p:=i) (q:=k) (u:=(D j).rv) (v:=(D j).kv);rw[a1,a2,b1,b2];simp only[Array.size_setIfInBounds];by_cases c1:k=j
 ·rw[if_pos c1,if_pos c1,if_pos c1,if_pos Tq,if_pos Tq];exact Zft
 ·rw[if_neg c1,if_neg c1,if_neg c1];by_cases c2:k=i
  ·rw[if_pos c2,if_pos c2,if_pos c2,if_pos Tq,if_pos Tq];exact Zft
  ·rw[if_neg c2,if_neg c2,if_neg c2];exact⟨e0,e1⟩
def agj (ds:List Bool)(gp:Nat)(w0:World)(g:Nat):Prop:=∀(x y:aP ds gp) W,w0.grownBy W (some g)->RN w0 g x.row->RN w0 g x.keys->RN w0 g y.row->RN w0 g y.keys->x.row.l.length<=1000->y.row.l.length<=1000->x.keys.l.length=ds.length->y.keys.l.length=ds.length->
 ar 39 #[aw gp,.agg #[.slice x.row.A x.row.l.length x.row.c,.slice x.keys.A x.keys.l.length x.keys.c],.agg #[.slice y.row.A y.row.l.length y.row.c,.slice y.keys.A y.keys.l.length y.keys.c]] W λ e w'=>e=.returned (af (fY x y))/\aj W w'
structure SS (w0:World) (g n:Nat) (w:World) (D:Nat->aP ds gp):Prop where
 at_:At w g n D
 grown:w0.grownBy w (some g)
 rows:∀k,k < n->RN w0 g (D k).row/\RN w0 g (D k).keys/\(D k).row.l.length<=1000/\(D k).keys.l.length=ds.length
 ord:agj ds gp w0 g
variable{w0:World}
theorem SS.later(h:SS w0 g n w D)(hb:aj w w'):SS w0 g n w' D:=⟨h.at_.later hb,aY h.grown (aR hb),h.rows,h.ord⟩
variable{W:World}
theorem SS.cmp(h:SS w0 g n w D)(i j:Nat)(hi:i < n)(hj:j < n)(hW:aj w W):
  ar 39 #[aw gp,.agg #[.slice (D i).row.A (D i).row.l.length (D i).row.c,.slice (D i).keys.A (D i).keys.l.length (D i).keys.c],.agg #[.slice (D j).row.A (D j).row.l.length (D j).row.c,.slice (D j).keys.A (D j).keys.l.length (D j).keys.c]] W λ e w'=>e=.returned (af (fY (D i) (D j)))/\aj W w':=
 h.ord _ _ W (aY h.grown (aR hW)) (h.rows i hi).1 (h.rows i hi).2.1 (h.rows j hj).1 (h.rows j hj).2.1 (h.rows i hi).2.2.1 (h.rows j hj).2.2.1 (h.rows i hi).2.2.2 (h.rows j hj).2.2.2
theorem SS.swap(h:SS w0 g n w D)(i j:Nat)(hi:i < n)(hj:j < n):SS w0 g n (((((w.setCell ⟨g,i*2,none⟩ (D j).rv).setCell ⟨g,i*2+1,none⟩ (D j).kv).setCell ⟨g,j*2,none⟩ (D i).rv).setCell ⟨g,j*2+1,none⟩ (D i).kv).drew) (swp D i j):=by refine⟨h.at_.swap i j hi hj,jD (aC (aC (aC (aC h.grown _ _) _ _) _ _) _ _),λ k hk=>?_,h.ord⟩;exact Zgk
theorem SS.second(h:SS w0 g n w D)(i j:Nat)(hi:i < n)(hj:j < n)(x:aP ds gp):(∃v,(w.setCell ⟨g,i*2,none⟩ x.rv).cell? ⟨g,i*2+1,none⟩=some v)/\(∃v,((w.setCell ⟨g,i*2,none⟩ x.rv).setCell ⟨g,i*2+1,none⟩ x.kv).cell? ⟨g,j*2,none⟩=some v)/\∃v,(((w.setCell ⟨g,i*2,none⟩ x.rv).setCell ⟨g,i*2+1,none⟩ x.kv).setCell ⟨g,j*2,none⟩ (D i).rv).cell? ⟨g,j*2+1,none⟩=some v:=by
 obtain⟨cs,h1,h2,h3⟩:=h.at_;have Km:∀(cs:Array Value) k,k < cs.size->∃v,cs[k]?=some v:=λ cs k hk=>⟨_,Array.getElem?_eq_getElem hk⟩
 refine⟨?_,?_,?_⟩
 ·rw[(h1.aT _ _).cell];exact Km _ _ Va
 ·rw[((h1.aT _ _).aT _ _).cell];exact Km _ _ Va
 ·rw[(((h1.aT _ _).aT _ _).aT _ _).cell];exact Km _ _ Va
def ju (D:Nat->aP ds gp)(a b c:Nat):Nat->aP ds gp:=λ k=>if a<=k/\k < a+c then D (k - a+b)else if b<=k/\k < b+c then D (k - b+a)else D k
theorem Dq (D:Nat->aP ds gp)(a b:Nat):ju D a b 0=D:=by funext k;unfold ju;rw[if_neg Tq,if_neg Tq]
theorem Dr (D:Nat->aP ds gp)(a b i:Nat)(h:a+i < b):swp (ju D a b i) (a+i) (b+i)=ju D a b (i+1):=by funext k;unfold swp ju;exact Zdq
def BF (w0:World)(g n:Nat)(D:Nat->aP ds gp)(e:Ending)(w':World):Prop:=e=.returned (.tuple #[])/\SS w0 g n w' D
theorem nI (w0:World)(g n cap a b c:Nat)(D:Nat->aP ds gp)(w:World)(h:SS w0 g n w D)(hn:n<=1000)(hab:a+c<=b)(hb:b+c<=n):
  ar 195 #[aI g n cap,af a,af b,af c,.func (.func 39) #[aw gp] #[]] w (BF w0 g n (ju D a b c)):=by
 have HS:=aa h;clear h;have mixed:Tryz.prog.follows .mixedOrders=true:=by kernel_rfl
 go_enter Tryz.func195,Tryz.ntmps195;go_wp2_with fail;go_loopw [10] (λ iv wr=>∃i:Nat,i<=c/\iv=af i/\SS w0 g n wr (ju D a b i)) (λ iv _=>c - (intOf iv).toNat);case atStart=>exact⟨0,Nat.zero_le _,rfl,by rw[Dq];exact HS.ae⟩
 case round=>
  obtain⟨i,hi,rfl,hf⟩:=hrel;have H2:=aa hf;clear hf;by_cases hlt:i < c
  ·have c1:=H2.ae.at_.cell (a+i) Tq;have lG:=H2.ae.at_.dH (a+i) Tq;have c2:=H2.ae.at_.cell (b+i) Tq;have lH:=H2.ae.at_.dH (b+i) Tq;have f1:=H2.ae.at_.frozen ((a+i)*2);have f1k:=H2.ae.at_.frozen ((a+i)*2+1);have f2:=H2.ae.at_.frozen ((b+i)*2);have f2k:=H2.ae.at_.frozen ((b+i)*2+1);obtain⟨⟨u1,c3⟩,⟨u2,c4⟩,⟨u3,c5⟩⟩:=H2.ae.second (a+i) (b+i) Tq Tq (ju D a b i (b+i));have S3:=aa (H2.ae.swap (a+i) (b+i) Tq Tq);simp only[aP.rv,aP.kv] at c3 c4 c5 S3;go_upto_region 3 with fail;go_big_region_o;clear c1 c2 lG lH c3 c4 c5 f1 f2 f1k f2k;rw[Dr D a b i Tq] at S3;generalize hW3:World.drew _=W3 at S3 ⊢;clear hW3;go_wp2_with fail;go_roundw;case rel=>exact⟨i+1,hlt,by go_num,S3.ae⟩
   case measure=>exact Za2
  ·have GN:i=c:=by omega
   subst GN;go_wp2_with fail;exact bodyPost_ret (v:=.tuple #[]) (by simp[results,Tryz.results195,go_sem]) rfl ⟨rfl,H2.ae⟩
def bc (D:Nat->aP ds gp)(s m e:Nat):Nat->aP ds gp:=λ k=>if s<=k/\k < e then(if k < s+(e - m)then D (k+(m - s))else D (k - (e - m)))else D k
theorem Na (D:Nat->aP ds gp)(m i j:Nat)(hi:i<=m)(nP:j < i):bc (ju D (m - i) m j) (m - (i - j)) m (m+j)=bc D (m - i) m (m+j):=by funext k;unfold bc ju;exact Zdq
theorem Nb (D:Nat->aP ds gp)(m i j:Nat)(hi:i<=m)(nP:i < j):bc (ju D (m - i) (m+j - i) i) (m - i) m (m+(j - i))=bc D (m - i) m (m+j):=by funext k;unfold bc ju;exact Zdq
theorem Nc (D:Nat->aP ds gp)(m i:Nat)(hi:i<=m):ju D (m - i) m i=bc D (m - i) m (m+i):=by funext k;unfold bc ju;exact Zdq
theorem fZ (w0:World)(g n cap a m b:Nat)(D:Nat->aP ds gp)(w:World)(h:SS w0 g n w D)(hn:n<=1000)(R5:a < m)(R6:m < b)(hb:b<=n):
  ar 166 #[aI g n cap,af a,af m,af b,.func (.func 39) #[aw gp] #[]] w (BF w0 g n (bc D a m b)):=by
 have HS:=aa h;clear h;go_enter Tryz.func166,Tryz.ntmps166;go_wp2_with fail;go_loopw [10,11] (λ iv jv wr=>∃(i j:Nat) (E:Nat->aP ds gp),0 < i/\0 < j/\a+i<=m/\m+j<=b/\iv=af i/\jv=af j/\SS w0 g n wr E/\bc E (m - i) m (m+j)=bc D a m b) (λ iv jv _=>(intOf iv).toNat+(intOf jv).toNat);case atStart=>refine⟨m - a,b - m,D,by omega,by omega,by omega,by omega,by go_num,by go_num,HS.ae,?_⟩;rw[show m - (m - a)=a by omega,show m+(b - m)=b by omega]
 case round=>
  obtain⟨i,j,E,kX,hj0,hi,hj,rfl,rfl,hs,hr⟩:=hrel;have H2:=aa hs;have HR:=aa hr;clear hs hr;by_cases heq:i=j
  ·subst heq;have t1:((i:Int) !=(i:Int))=false:=by simp
   have z1:(m:Int) - (i:Int)=((m - i:Nat):Int):=by omega
   go_wp2_with fail;refine(nI w0 g n cap (m - i) m i E wr H2.ae hn Tq Tq).mono ?_;rintro e_ w1 ⟨rfl,hs⟩;rw[Nc E m i Tq,HR.ae] at hs;have H3:=aa hs;clear hs H2 HR z1 t1;go_wp2_with fail;exact bodyPost_ret (v:=.tuple #[]) (by simp[results,Tryz.results166,go_sem]) rfl ⟨rfl,H3.ae⟩
  ·have t1:((i:Int) !=(j:Int))=true:=by simp;omega
   have z1:(m:Int) - (i:Int)=((m - i:Nat):Int):=by omega
   by_cases hlt:j < i
   ·have t2:decide ((j:Int)<(i:Int))=true:=by simp;omega
    go_wp2_with fail;refine(nI w0 g n cap (m - i) m j E wr H2.ae hn Tq Tq).mono ?_;rintro e_ w1 ⟨rfl,hs⟩;have H3:=aa hs;have HR3:=aa ((Na E m i j Tq hlt).trans HR.ae);clear hs H2 HR z1 t1;go_wp2_with fail;go_roundw;case rel=>exact⟨i - j,j,_,by omega,by omega,by omega,by omega,by go_num,rfl,H3.ae,HR3.ae⟩
    case measure=>exact Za2
   ·have t2:decide ((j:Int)<(i:Int))=false:=by simp;omega
    have z2:(m:Int)+(j:Int) - (i:Int)=((m+j - i:Nat):Int):=by omega
    go_wp2_with fail;refine(nI w0 g n cap (m - i) (m+j - i) i E wr H2.ae hn Tq Tq).mono ?_;rintro e_ w1 ⟨rfl,hs⟩;have H3:=aa hs;have HR3:=aa ((Nb E m i j Tq Tq).trans HR.ae);clear hs H2 HR z1 t1 z2;go_wp2_with fail;go_roundw;case rel=>exact⟨i,j - i,_,by omega,by omega,by omega,by omega,rfl,by go_num,H3.ae,HR3.ae⟩
    case measure=>exact Za2
def lt (x y:aP ds gp):Prop:=fY x y < 0
def le (x y:aP ds gp):Prop:=fY x y<=0
theorem le_refl (x:aP ds gp):le x x:=by unfold le;rw[Wo];omega
variable{x y z:aP ds gp}
theorem le_trans(h:le x y)(k:le y z):le x z:=Ra _ _ _ h k
theorem le_of_lt(h:lt x y):le x y:=by unfold lt at h;unfold le;omega
theorem not_lt:¬lt x y↔le y x:=by unfold lt le;have:=GM x y;omega
theorem zn(h:le x y)(k:lt y z):lt x z:=by
 refine Classical.byContradiction λ e=>?_
 have:=le_trans (not_lt.1 e) h;exact(not_lt.2 this) k
theorem zq(h:lt x y)(k:le y z):lt x z:=by
 refine Classical.byContradiction λ e=>?_
 have:=le_trans k (not_lt.1 e);exact(not_lt.2 this) h
def cD (D:Nat->aP ds gp)(a b:Nat):Prop:=∀i j,a<=i->i < j->j < b->le (D i) (D j)
variable{a b a' b':Nat}
theorem cD.mono(h:cD D a b)(h1:a<=a')(h2:b'<=b):cD D a' b':=λ i j hi hj hb=>h i j Tq hj Tq
variable{E:Nat->aP ds gp}
theorem cD.congr(h:cD D a b)(he:∀i,a<=i->i < b->E i=D i):cD E a b:=λ i j hi hj hb=>by rw[he i hi Tq,he j Tq hb];exact h i j hi hj hb
variable{i j:Nat}
theorem cD.le(h:cD D a b)(hi:a<=i)(nP:i<=j)(hj:j < b):le (D i) (D j):=by
 rcases Nat.lt_or_ge i j with h1 | h1
 ·exact h i j hi h1 hj
 ·rw[show i=j by omega];exact le_refl _
theorem cD.none(h:b<=a+1):cD D a b:=λ i j hi hj hb=>by omega
inductive Sw (a b:Nat) (D:Nat->aP ds gp):(Nat->aP ds gp)->Prop
 | refl:Sw a b D D
 | step {E:Nat->aP ds gp} {i j:Nat}:Sw a b D E->a<=i->i < b->a<=j->j < b->Sw a b D (swp E i j)
variable{F:Nat->aP ds gp}
theorem Sw.trans(h:Sw a b D E)(k:Sw a b E F):Sw a b D F:=by
 induction k with
 | refl=>exact h
 | step _ h1 h2 h3 h4 ih=>exact .step ih h1 h2 h3 h4
theorem Sw.mono(h:Sw a b D E)(h1:a'<=a)(h2:b<=b'):Sw a' b' D E:=by
 induction h with
 | refl=>exact .refl
 | step _ k1 k2 k3 k4 ih=>exact .step ih Tq Tq Tq Tq
theorem Sw.ae(h:Sw a b D E):∀k,k < a\/b<=k->E k=D k:=by
 induction h with
 | refl=>exact λ _ _=>rfl
 | step _ k1 k2 k3 k4 ih=>intro k hk;unfold swp;rw[if_neg Tq,if_neg Tq];exact ih k hk
theorem Sw.mem(h:Sw a b D E):∀k,a<=k->k < b->∃k',a<=k'/\k' < b/\E k=D k':=by
 induction h with
 | refl=>exact λ k h1 h2=>⟨k,h1,h2,rfl⟩
 | step _ k1 k2 k3 k4 ih=>
   intro k h1 h2;unfold swp;split
   ·exact ih _ k1 k2
   ·split
    ·exact ih _ k3 k4
    ·exact ih k h1 h2
theorem wO (D:Nat->aP ds gp)(n i j:Nat)(hi:i < n)(hj:j < n):((List.range n).map (swp D i j)).Perm ((List.range n).map D):=by exact Zbq
theorem Sw.perm(h:Sw a b D E)(hb:b<=n):((List.range n).map E).Perm ((List.range n).map D):=by
 induction h with
 | refl=>exact .refl _
 | step _ k1 k2 k3 k4 ih=>exact(wO _ n _ _ Tq Tq).trans ih
theorem wP (D:Nat->aP ds gp)(a b:Nat):∀c,a+c<=b->Sw a (b+c) D (ju D a b c)
 | 0,_=>by rw[Dq];exact .refl
 | c+1,h=>by rw[<- Dr D a b c Tq];exact .step ((wP D a b c Tq).mono (Nat.le_refl _) Tq) Tq Tq Tq Tq
theorem aja (D:Nat->aP ds gp)(m:Nat):∀N i j,i+j<=N->0 < i->0 < j->i<=m->Sw (m - i) (m+j) D (bc D (m - i) m (m+j)):=by
 intro N
 induction N generalizing D with
 | zero=>intro i j h h0 h1;omega
 | succ N ih=>
   intro i j h h0 h1 RS;rcases Nat.lt_trichotomy i j with h2 | h2 | h2
   ·have h3:=ih (ju D (m - i) (m+j - i) i) i (j - i) Tq h0 Tq RS;rw[Nb D m i j RS h2] at h3;exact((wP D (m - i) (m+j - i) i Tq).mono (Nat.le_refl _) Tq).trans (h3.mono (Nat.le_refl _) Tq)
   ·subst h2;rw[<- Nc D m i RS];exact wP D (m - i) m i Tq
   ·have h3:=ih (ju D (m - i) m j) (i - j) j Tq Tq h1 Tq;rw[Na D m i j RS h2] at h3;exact((wP D (m - i) m j Tq).mono (Nat.le_refl _) Tq).trans (h3.mono Tq (Nat.le_refl _))
theorem nk (D:Nat->aP ds gp)(s m e:Nat)(h1:s < m)(h2:m < e):Sw s e D (bc D s m e):=by have:=aja D m (m - s+(e - m)) (m - s) (e - m) (Nat.le_refl _) Tq Tq Tq;rwa [show m - (m - s)=s by omega,show m+(e - m)=e by omega] at this
theorem yu (D:Nat->aP ds gp)(m e:Nat):bc D m m e=D:=by exact Zga
theorem uN (D:Nat->aP ds gp)(s m:Nat):bc D s m m=D:=by exact Zga
def Ins (E:Nat->aP ds gp)(a i j:Nat):Prop:=(∀p q,a<=p->p < q->q<=i->p≠j->q≠j->le (E p) (E q))/\∀q,j < q->q<=i->le (E j) (E q)
theorem Ins.start(h:cD D a i):Ins D a i i:=⟨λ p q h1 h2 h3 h4 h5=>h p q h1 h2 Tq,λ q h1 h2=>by omega⟩
theorem Ins.step(h:Ins E a i j)(hj:a < j)(Xz:j<=i)(hl:lt (E j) (E (j - 1))):Ins (swp E j (j - 1)) a i (j - 1):=by
 constructor
 ·intro p q h1 h2 h3 h4 h5;unfold swp;rw[if_neg h4,if_neg h5];by_cases e1:p=j
  ·subst e1;rw[if_pos rfl,if_neg Tq];exact h.1 (p - 1) q Tq Tq h3 Tq Tq
  ·rw[if_neg e1];by_cases e2:q=j
   ·subst e2;rw[if_pos rfl];exact h.1 p (q - 1) h1 Tq Tq e1 Tq
   ·rw[if_neg e2];exact h.1 p q h1 h2 h3 e1 e2
 ·intro q h1 h2;unfold swp;rw[if_pos rfl,if_neg Tq];by_cases e2:q=j
  ·subst e2;rw[if_pos rfl];exact le_of_lt hl
  ·rw[if_neg e2];exact h.2 q Tq h2
theorem Ins.stop(h:Ins E a i j)(hj:a<=j)(hs:j=a\/¬lt (E j) (E (j - 1))):cD E a (i+1):=by
 intro p q h1 h2 h3;by_cases e1:p=j
 ·subst e1;exact h.2 q h2 Tq
 ·by_cases e2:q=j
  ·subst e2;rcases hs with hs | hs
   ·omega
   ·have h4:=not_lt.1 hs;by_cases e3:p=q - 1
    ·rw[e3];exact h4
    ·exact le_trans (h.1 p (q - 1) h1 Tq Tq e1 Tq) h4
  ·exact h.1 p q h1 h2 Tq e1 e2
def zH (D:Nat->aP ds gp)(a k:Nat):Nat->aP ds gp:=λ x=>if a<=x/\x < k then D (x+1)else if x=k then D a else D x
theorem GQ (D:Nat->aP ds gp)(a:Nat):zH D a a=D:=by funext x;unfold zH;exact ZeJ
theorem GR (D:Nat->aP ds gp)(a k:Nat)(h:a<=k):swp (zH D a k) k (k+1)=zH D a (k+1):=by funext x;unfold swp zH;exact Zf7
theorem TA (D:Nat->aP ds gp)(a:Nat):∀d,Sw a (a+d+1) D (zH D a (a+d))
 | 0=>by show Sw a (a+0+1) D (zH D a a);rw[GQ];exact .refl
 | d+1=>by rw[show a+(d+1)=a+d+1 by omega,<- GR D a (a+d) Tq];exact .step ((TA D a d).mono (Nat.le_refl _) Tq) Tq Tq Tq Tq
theorem R7(hs:cD D (a+1) b)(hi:a+1<=i)(hib:i<=b)(h1:∀h,a+1<=h->h < i->lt (D h) (D a))(h2:∀h,i<=h->h < b->¬lt (D h) (D a)):cD (zH D a (i - 1)) a b:=by
 intro p q hp hpq hq;unfold zH;by_cases c1:a<=p/\p < i - 1
 ·rw[if_pos c1];by_cases c2:a<=q/\q < i - 1
  ·rw[if_pos c2];exact hs (p+1) (q+1) Tq Tq Tq
  ·rw[if_neg c2];by_cases c3:q=i - 1
   ·rw[if_pos c3];exact le_of_lt (h1 (p+1) Tq Tq)
   ·rw[if_neg c3];exact hs.le Tq Tq hq
 ·rw[if_neg c1];have c2:¬(a<=q/\q < i - 1):=by omega
  rw[if_neg c2];have c3:q≠i - 1:=by omega
  rw[if_neg c3];by_cases c4:p=i - 1
  ·rw[if_pos c4];exact not_lt.1 (h2 q Tq hq)
  ·rw[if_neg c4];exact hs p q Tq hpq hq
def BG (D:Nat->aP ds gp)(k m:Nat):Nat->aP ds gp:=λ x=>if x=k then D m else if k < x/\x<=m then D (x - 1)else D x
theorem GU (D:Nat->aP ds gp)(m:Nat):BG D m m=D:=by funext x;unfold BG;exact ZeJ
theorem GV (D:Nat->aP ds gp)(k m:Nat)(h0:0 < k)(h:k<=m):swp (BG D k m) k (k - 1)=BG D (k - 1) m:=by funext x;unfold swp BG;exact Zf7
theorem TB (D:Nat->aP ds gp)(m:Nat):∀d,d<=m->Sw (m - d) (m+1) D (BG D (m - d) m)
 | 0,_=>by rw[Nat.sub_zero,GU];exact .refl
 | d+1,h=>by rw[show m - (d+1)=m - d - 1 by omega,<- GV D (m - d) m Tq Tq];exact .step ((TB D m d Tq).mono Tq (Nat.le_refl _)) Tq Tq Tq Tq
variable{m:Nat}
theorem R8(hs:cD D a m)(hi:a<=i)(RS:i<=m)(h1:∀h,a<=h->h < i->¬lt (D m) (D h))(h2:∀h,i<=h->h < m->lt (D m) (D h)):cD (BG D i m) a (m+1):=by
 intro p q hp hpq hq;unfold BG;by_cases c1:p=i
 ·rw[if_pos c1,if_neg Tq,if_pos Tq];exact le_of_lt (h2 (q - 1) Tq Tq)
 ·rw[if_neg c1];by_cases c2:i < p/\p<=m
  ·rw[if_pos c2,if_neg Tq,if_pos Tq];exact hs.le Tq Tq Tq
  ·rw[if_neg c2];by_cases c3:q=i
   ·rw[if_pos c3];exact not_lt.1 (h1 p hp Tq)
   ·rw[if_neg c3];by_cases c4:i < q/\q<=m
    ·rw[if_pos c4];exact hs.le hp Tq Tq
    ·rw[if_neg c4];exact hs p q hp hpq Tq
structure Found (D:Nat->aP ds gp) (p s0 r0 s r:Nat):Prop where
 low:∀c,s0<=c->c < s->¬lt (D (p - c)) (D c)
 high:∀c,r<=c->c < r0->lt (D (p - c)) (D c)
structure yL (a m b mid s0 r0:Nat):Prop where
 ab:a < m/\m < b
 asW:mid=(a+b)/ 2
 ends:(m > mid/\s0=mid+m - b/\r0=mid)\/(m<=mid/\s0=a/\r0=m)
variable{mid s0 r0 r c:Nat}
theorem Found.go{s:Nat}(he:yL a m b mid s0 r0)(h1:cD D a m)(h2:cD D m b)(h:Found D (mid+m - 1) s0 r0 s r)(hs:s0<=s)(hr:r<=r0)(hc:s<=c)(hc2:c < r):
  (¬lt (D (mid+m - 1 - c)) (D c)->Found D (mid+m - 1) s0 r0 (c+1) r)/\(lt (D (mid+m - 1 - c)) (D c)->Found D (mid+m - 1) s0 r0 s c):=by
 obtain⟨⟨e1,e2⟩,rfl,e3⟩:=he;constructor
 ·intro hn;refine⟨λ d hd Tp=>?_,h.high⟩;have a1:le (D d) (D c):=h1.le Tq Tq Tq;have a2:le (D ((a+b)/ 2+m - 1 - c)) (D ((a+b)/ 2+m - 1 - d)):=h2.le Tq Tq Tq;exact not_lt.2 (le_trans (le_trans a1 (not_lt.1 hn)) a2)
 ·intro hl;refine⟨h.low,λ d hd Tp=>?_⟩;have a1:le (D c) (D d):=h1.le Tq Tq Tq;have a2:le (D ((a+b)/ 2+m - 1 - d)) (D ((a+b)/ 2+m - 1 - c)):=h2.le Tq Tq Tq;exact zq (zn a2 hl) a1
theorem Wp{s:Nat}(he:yL a m b mid s0 r0)(h1:cD D a m)(h2:cD D m b)(h:Found D (mid+m - 1) s0 r0 s s)(hs:s0<=s)(hr:s<=r0):
  cD (bc D s m (mid+m - s)) a s/\cD (bc D s m (mid+m - s)) s mid/\cD (bc D s m (mid+m - s)) mid (mid+m - s)/\cD (bc D s m (mid+m - s)) (mid+m - s) b/\
  ∀x y,a<=x->x < mid->mid<=y->y < b->le (bc D s m (mid+m - s) x) (bc D s m (mid+m - s) y):=by
 obtain⟨⟨e1,e2⟩,e0,e3⟩:=he;have b1:a<=s/\s<=m/\s<=mid:=by omega
 have b2:m<=mid+m - s/\mid+m - s<=b:=by omega
 obtain⟨f,hf⟩:∃f,f=mid+m - s:=⟨_,rfl⟩;rw[<- hf] at b2 ⊢;have r1:∀x,x < s->bc D s m f x=D x:=λ x hx=>by unfold bc;rw[if_neg Tq]
 have r2:∀x,s<=x->x < mid->bc D s m f x=D (x+(m - s)):=λ x hx hx2=>by unfold bc;rw[if_pos Tq,if_pos Tq]
 have r3:∀x,mid<=x->x < f->bc D s m f x=D (x - (f - m)):=λ x hx hx2=>by unfold bc;rw[if_pos Tq,if_neg Tq]
 have r4:∀x,f<=x->bc D s m f x=D x:=λ x hx=>by unfold bc;rw[if_neg Tq]
 refine⟨λ i j hi hj hb=>?_,λ i j hi hj hb=>?_,λ i j hi hj hb=>?_,λ i j hi hj hb=>?_,λ x y hx hx2 hy fF=>?_⟩
 ·rw[r1 i Tq,r1 j hb];exact h1 i j hi hj Tq
 ·rw[r2 i hi Tq,r2 j Tq hb];exact h2 _ _ Tq Tq Tq
 ·rw[r3 i hi Tq,r3 j Tq hb];exact h1 _ _ Tq Tq Tq
 ·rw[r4 i hi,r4 j Tq];exact h2 _ _ Tq hj hb
 ·by_cases c1:x < s
  ·rw[r1 x c1];by_cases c2:y < f
   ·rw[r3 y hy c2];exact h1.le hx Tq Tq
   ·rw[r4 y Tq];have h3:=h.low (s - 1) Tq Tq;have h4:=not_lt.1 h3;rw[show mid+m - 1 - (s - 1)=f by omega] at h4;exact le_trans (h1.le hx (show x<=s - 1 by omega) Tq) (le_trans h4 (h2.le Tq Tq fF))
  ·rw[r2 x Tq hx2];by_cases c2:y < f
   ·rw[r3 y hy c2];have h3:=h.high s (Nat.le_refl _) Tq;rw[show mid+m - 1 - s=f - 1 by omega] at h3;exact le_trans (h2.le Tq (show x+(m - s)<=f - 1 by omega) Tq) (le_trans (le_of_lt h3) (h1.le Tq Tq Tq))
   ·rw[r4 y Tq];exact h2.le Tq Tq fF
theorem jk(hm:a<=mid/\mid<=b)(h:∀x y,a<=x->x < mid->mid<=y->y < b->le (D x) (D y))(k1:Sw a mid D E)(k2:Sw mid b E F)(s1:cD E a mid)(s2:cD F mid b):cD F a b/\Sw a b D F:=by
 refine⟨λ i j hi hj hb=>?_,(k1.mono (Nat.le_refl _) hm.2).trans (k2.mono hm.1 (Nat.le_refl _))⟩;by_cases c1:j < mid
 ·rw[k2.ae i (.inl Tq),k2.ae j (.inl c1)];exact s1 i j hi hj c1
 ·by_cases c2:mid<=i
  ·exact s2 i j c2 hj hb
  ·rw[k2.ae i (.inl Tq)];obtain⟨i',h1,h2,h3⟩:=k1.mem i hi Tq;obtain⟨j',h4,h5,h6⟩:=k2.mem j Tq hb;rw[h3,h6,k1.ae j' (.inr h4)];exact h i' j' h1 h2 h4 h5
def br (w0:World)(g n a b:Nat)(D:Nat->aP ds gp)(e:Ending)(w':World):Prop:=e=.returned (.tuple #[])/\∃E,SS w0 g n w' E/\Sw a b D E/\cD E a b
theorem za9.Kae(h:p:=by
 have c1:=H3.ae.at_.cell (m+1) Tq;have lG:=H3.ae.at_.dH (m+1) Tq;have c2:=H3.ae.at_.cell m Tq;have lH:=H3.ae.at_.dH m Tq;have f1:=H3.ae.at_.frozen ((m+1)*2);have f1k:=H3.ae.at_.frozen ((m+1)*2+1);have f2:=H3.ae.at_.frozen (m*2);have f2k:=H3.ae.at_.frozen (m*2+1);obtain⟨⟨u1,c3⟩,⟨u2,c4⟩,⟨u3,c5⟩⟩:=H3.ae.second (m+1) m Tq Tq (E m);have S3:=aa (H3.ae.swap (m+1) m Tq Tq);simp only[aP.rv,aP.kv] at c3 c4 c5 S3;go_upto_region 6 with fail;go_big_region_o;clear c1 c2 lG lH c3 c4 c5 f1 f2 f1k f2k;generalize hW3:World.drew _=W3 at S3 ⊢;clear hW3;have SI:=aa (HO.ae.step hja hj (by simpa using HL.ae));have SW:=aa (Sw.step (i:=m+1) (j:=m) HW.ae Tq Tq Tq Tq);clear HO HW HL;go_wp2_with fail;go_roundw;case rel=>exact⟨m,_,by omega,by omega,by go_num,S3.ae,SW.ae,SI.ae⟩
 case measure=>simp[intOf]):p:=h
theorem zba.Kae(h:p:=by have SO:=aa (HO.ae.stop hj0 (.inr (by simpa using HL.ae)));exact ZeW):p:=h
theorem zeZ.Ka7(h:p:=by clear fF y2;have H3:=aa (H2.ae.later hL);clear H2 hL;exact ZeW):p:=h
theorem tR (w0:World)(g n cap a b:Nat)(D:Nat->aP ds gp)(w:World)(h:SS w0 g n w D)(hn:n<=1000)(hab:a<=b)(hb:b<=n):
  ar 105 #[aI g n cap,af a,af b,.func (.func 39) #[aw gp] #[]] w (br w0 g n a b D):=by
 have HS:=aa h;have mixed:Tryz.prog.follows .mixedOrders=true:=by kernel_rfl
 clear h;go_enter Tryz.func105,Tryz.ntmps105;go_wp2_with fail;go_loopw [8] (λ iv wr=>∃(i:Nat) (Kx:Nat->aP ds gp),a < i/\(i<=b\/i=a+1)/\iv=af i/\SS w0 g n wr Kx/\Sw a b D Kx/\cD Kx a i) (λ iv _=>b - (intOf iv).toNat);case atStart=>exact⟨a+1,D,by omega,.inr rfl,by go_num,HS.ae,.refl,.none Tq⟩
 case round=>
  clear HS;obtain⟨i,Kx,kX,hi,rfl,q4,q5,Az⟩:=hrel;have H2:=aa q4;have HW:=aa q5;have HO:=aa Az;clear q4 q5 Az;by_cases hlt:i < b
  ·go_wp2_with fail;go_loopw [9] (λ jv wr2=>∃(j:Nat) (E:Nat->aP ds gp),a<=j/\j<=i/\jv=af j/\SS w0 g n wr2 E/\Sw a b D E/\Ins E a i j) (λ jv _=>(intOf jv).toNat);case atStart=>exact⟨i,Kx,by omega,Nat.le_refl _,rfl,H2.ae,HW.ae,.start HO.ae⟩
   case round=>
    clear H2 HW HO;obtain⟨j,E,hj0,hj,rfl,q4,q5,Az⟩:=hrel;have H2:=aa q4;have HW:=aa q5;have HO:=aa Az;clear q4 q5 Az;by_cases hja:a < j
    ·obtain⟨m,rfl⟩:∃q,j=q+1:=⟨j - 1,by omega⟩;have t1:decide ((a:Int)<(m:Int)+1)=true:=decide_eq_true Tq;have t1':decide ((a:Int)<((m+1:Nat):Int))=true:=decide_eq_true Tq;go_upto_region 4 with fail;have c1:=λ q:Ext wr.heap.size wr=>(H2.ae.at_.later q.h).cell (m+1) Tq
     have lG:=λ q:Ext wr.heap.size wr=>(H2.ae.at_.later q.h).dH (m+1) Tq
     have c2:=λ q:Ext wr.heap.size wr=>(H2.ae.at_.later q.h).cell m Tq
     have lH:=λ q:Ext wr.heap.size wr=>(H2.ae.at_.later q.h).dH m Tq
     have hc:=λ q:Ext wr.heap.size wr=>H2.ae.cmp (m+1) m Tq Tq q.h
     by_cases hl:fY (E (m+1)) (E m)< 0
     ·have t2:=decide_eq_true hl;have HL:=aa (show lt (E (m+1)) (E m)from hl);clear hl;refine aM 17 wr.heap.size wr (Below.refl _ _) T8 T8 T8 T8 ?_;open za9 in exact Zax
     ·have t2:=decide_eq_false hl;have HL:=aa (show¬lt (E (m+1)) (E m)from hl);clear hl;refine aM 17 wr.heap.size wr (Below.refl _ _) T8 T8 T8 T8 ?_;open zba in exact Zax
    ·have t1:decide ((a:Int)<(j:Int))=false:=decide_eq_false Tq;have SO:=aa (HO.ae.stop hj0 (.inl Tq));go_upto_region 4 with fail;refine aM 17 wr.heap.size wr (Below.refl _ _) T8 T8 T8 T8 ?_;simp only[List.append,Uab];open zeZ in exact ZcX
  ·have HE:=aa (HO.ae.mono (Nat.le_refl a) (show b<=i by omega));go_wp2_with fail;exact bodyPost_ret (v:=.tuple #[]) Tbg rfl ⟨rfl,Kx,H2.ae,HW.ae,HE.ae⟩
theorem zbb.Kae(h:p:=by have AL:=aa (show∀h,a+1<=h->h < m+1->lt (D h) (D a)from λ h h1 h2=>zn (Q5.ae.le h1 (show h<=m by omega) Tq) HX.ae);exact Zd3):p:=h
theorem zbc.Kae(h:p:=by have HH2:=aa (show∀h,m<=h->h < b->¬lt (D h) (D a)from λ h h1 h2=>not_lt.2 (le_trans (not_lt.1 HX.ae) (Q5.ae.le Tq h1 h2)));exact ZeD):p:=h
theorem zeb.KaP(h:p:=by
 have c1:=λ q:Ext wr.heap.size wr=>(H2.ae.at_.later q.h).cell (m) Tq
 have lG:=λ q:Ext wr.heap.size wr=>(H2.ae.at_.later q.h).dH (m) Tq
 have c2:=λ q:Ext wr.heap.size wr=>(H2.ae.at_.later q.h).cell (a) Tq
 have lH:=λ q:Ext wr.heap.size wr=>(H2.ae.at_.later q.h).dH (a) Tq
 have hc:=λ q:Ext wr.heap.size wr=>H2.ae.cmp (m) (a) Tq Tq q.h
 by_cases hl:fY (D (m)) (D (a))< 0
 ·have t2:=decide_eq_true hl;have HX:=aa (show lt (D (m)) (D (a))from hl);clear hl;refine aM 11 wr.heap.size wr (Below.refl _ _) T8 T8 T8 T8 ?_;open zbb in exact Zax
 ·have t2:=decide_eq_false hl;have HX:=aa (show¬lt (D (m)) (D (a))from hl);clear hl;refine aM 11 wr.heap.size wr (Below.refl _ _) T8 T8 T8 T8 ?_;open zbc in exact Zax):p:=h
theorem adJ (w0:World)(g n cap a b:Nat)(D:Nat->aP ds gp)(w:World)(h:SS w0 g n w D)(hn:n<=1000)(hab:a+1 < b)(hb:b<=n)(q5:cD D (a+1) b):
  ar 106 #[aI g n cap,af a,af (a+1),af b,.func (.func 39) #[aw gp] #[]] w (br w0 g n a b D):=by
 have HS:=aa h;have Q5:=aa q5;have mixed:Tryz.prog.follows .mixedOrders=true:=by kernel_rfl
 clear h q5;have t1:((a:Int)+1 - (a:Int)==1)=true:=by simp;omega
 go_enter Tryz.func106,Tryz.ntmps106;go_wp2_with fail;clear t1;go_loopw [10,11] (λ iv jv wr=>∃i j:Nat,a+1<=i/\i<=j/\j<=b/\iv=af i/\jv=af j/\SS w0 g n wr D/\(∀h,a+1<=h->h < i->lt (D h) (D a))/\∀h,j<=h->h < b->¬lt (D h) (D a)) (λ iv jv _=>(intOf jv).toNat - (intOf iv).toNat);case atStart=>exact⟨a+1,b,by omega,by omega,by omega,by go_num,rfl,HS.ae,λ h h1 h2=>by omega,λ h h1 h2=>by omega⟩
 case round=>
  clear HS;obtain⟨i,j,hi,nP,hj,rfl,rfl,hs,hl,hh⟩:=hrel;have H2:=aa hs;have HL:=aa hl;have HH:=aa hh;clear hs hl hh;by_cases hlt:i < j
  ·go_upto_region 5 with fail;open zeb in exact Zcj
  ·have G8:j=i:=by omega
   subst G8;have HF:=aa (R7 Q5.ae hi hj HL.ae HH.ae);have HW:=aa ((TA D a (j - 1 - a)).mono (Nat.le_refl _) (show a+(j - 1 - a)+1<=b by omega));rw[show a+(j - 1 - a)=j - 1 by omega] at HW;clear HL HH Q5 hlt nP;have zj:(j:Int) - 1=((j - 1:Nat):Int):=by omega
   go_wp2_with fail;go_loopw [13] (λ kv wr2=>∃k:Nat,a<=k/\k<=j - 1/\kv=af k/\SS w0 g n wr2 (zH D a k)) (λ kv _=>j - (intOf kv).toNat);case atStart=>exact⟨a,Nat.le_refl _,by omega,rfl,by rw[GQ];exact H2.ae⟩
   case round=>
    clear H2;obtain⟨k,hk0,hk,rfl,hs⟩:=hrel;have H2:=aa hs;clear hs;by_cases hlt:k < j - 1
    ·have t2:decide ((k:Int)<((j - 1:Nat):Int))=true:=decide_eq_true Tq;have c1:=H2.ae.at_.cell (k) Tq;have lG:=H2.ae.at_.dH (k) Tq;have c2:=H2.ae.at_.cell (k+1) Tq;have lH:=H2.ae.at_.dH (k+1) Tq;have f1:=H2.ae.at_.frozen ((k)*2);have f1k:=H2.ae.at_.frozen ((k)*2+1);have f2:=H2.ae.at_.frozen ((k+1)*2);have f2k:=H2.ae.at_.frozen ((k+1)*2+1);obtain⟨⟨u1,c3⟩,⟨u2,c4⟩,⟨u3,c5⟩⟩:=H2.ae.second (k) (k+1) Tq Tq (zH D a k (k+1));have S3:=aa (H2.ae.swap (k) (k+1) Tq Tq);simp only[aP.rv,aP.kv] at c3 c4 c5 S3;go_upto_region 11 with fail;go_big_region_o;clear c1 c2 lG lH c3 c4 c5 f1 f2 f1k f2k;rw[GR D a k hk0] at S3;generalize hW3:World.drew _=W3 at S3 ⊢;clear hW3;go_wp2_with fail;go_roundw;case rel=>exact⟨k+1,by omega,by omega,by go_num,S3.ae⟩
     case measure=>first |(simp[intOf];done)|(simp[intOf];omega)
    ·have t2:decide ((k:Int)<((j - 1:Nat):Int))=false:=decide_eq_false Tq;have GN:k=j - 1:=by omega
     exact ZeL
theorem zbd.Kae(h:p:=by have HH2:=aa (show∀h,m<=h->h < Kx->lt (D Kx) (D h)from λ h h1 h2=>zq HX.ae (Q5.ae.le Tq h1 h2));exact ZeD):p:=h
theorem zbe.Kae(h:p:=by have AL:=aa (show∀h,a<=h->h < m+1->¬lt (D Kx) (D h)from λ h h1 h2=>not_lt.2 (le_trans (Q5.ae.le h1 (show h<=m by omega) Tq) (not_lt.1 HX.ae)));exact Zd3):p:=h
theorem zec.KaP(h:p:=by
 have c1:=λ q:Ext wr.heap.size wr=>(H2.ae.at_.later q.h).cell (Kx) Tq
 have lG:=λ q:Ext wr.heap.size wr=>(H2.ae.at_.later q.h).dH (Kx) Tq
 have c2:=λ q:Ext wr.heap.size wr=>(H2.ae.at_.later q.h).cell (m) Tq
 have lH:=λ q:Ext wr.heap.size wr=>(H2.ae.at_.later q.h).dH (m) Tq
 have hc:=λ q:Ext wr.heap.size wr=>H2.ae.cmp (Kx) (m) Tq Tq q.h
 by_cases hl:fY (D (Kx)) (D (m))< 0
 ·have t2:=decide_eq_true hl;have HX:=aa (show lt (D (Kx)) (D (m))from hl);clear hl;refine aM 12 wr.heap.size wr (Below.refl _ _) T8 T8 T8 T8 ?_;open zbd in exact Zax
 ·have t2:=decide_eq_false hl;have HX:=aa (show¬lt (D (Kx)) (D (m))from hl);clear hl;refine aM 12 wr.heap.size wr (Below.refl _ _) T8 T8 T8 T8 ?_;open zbe in exact Zax):p:=h
theorem adK (w0:World)(g n cap a Kx:Nat)(D:Nat->aP ds gp)(w:World)(h:SS w0 g n w D)(hn:n<=1000)(hab:a+1 < Kx)(hb:Kx+1<=n)(q5:cD D a Kx):
  ar 106 #[aI g n cap,af a,af Kx,af (Kx+1),.func (.func 39) #[aw gp] #[]] w (br w0 g n a (Kx+1) D):=by
 have HS:=aa h;have Q5:=aa q5;have mixed:Tryz.prog.follows .mixedOrders=true:=by kernel_rfl
 clear h q5;have t0:((Kx:Int) - (a:Int)==1)=false:=by simp;omega
 have t1:((Kx:Int)+1 - (Kx:Int)==1)=true:=by simp;omega
 go_enter Tryz.func106,Tryz.ntmps106;go_wp2_with fail;clear t0 t1;go_loopw [14,15] (λ iv jv wr=>∃i j:Nat,a<=i/\i<=j/\j<=Kx/\iv=af i/\jv=af j/\SS w0 g n wr D/\(∀h,a<=h->h < i->¬lt (D Kx) (D h))/\∀h,j<=h->h < Kx->lt (D Kx) (D h)) (λ iv jv _=>(intOf jv).toNat - (intOf iv).toNat);case atStart=>exact⟨a,Kx,by omega,by omega,by omega,rfl,rfl,HS.ae,λ h h1 h2=>by omega,λ h h1 h2=>by omega⟩
 case round=>
  clear HS;obtain⟨i,j,hi,nP,hj,rfl,rfl,hs,hl,hh⟩:=hrel;have H2:=aa hs;have HL:=aa hl;have HH:=aa hh;clear hs hl hh;by_cases hlt:i < j
  ·go_upto_region 17 with fail;open zec in exact Zcj
  ·have G8:j=i:=by omega
   subst G8;have HF:=aa (R8 Q5.ae hi hj HL.ae HH.ae);have HW:=aa ((TB D Kx (Kx - j) Tq).mono (show a<=Kx - (Kx - j) by omega) (Nat.le_refl _));rw[show Kx - (Kx - j)=j by omega] at HW;clear HL HH Q5 hlt nP;go_wp2_with fail;go_loopw [17] (λ kv wr2=>∃k:Nat,j<=k/\k<=Kx/\kv=af k/\SS w0 g n wr2 (BG D k Kx)) (λ kv _=>(intOf kv).toNat);case atStart=>exact⟨Kx,by omega,by omega,rfl,by rw[GU];exact H2.ae⟩
   case round=>
    clear H2;obtain⟨k,hk0,hk,rfl,hs⟩:=hrel;have H2:=aa hs;clear hs;by_cases hlt:j < k
    ·obtain⟨kp,rfl⟩:∃q,k=q+1:=⟨k - 1,by omega⟩;have t2:decide ((j:Int)<(kp:Int)+1)=true:=decide_eq_true Tq;have t2':decide ((j:Int)<((kp+1:Nat):Int))=true:=decide_eq_true Tq;have c1:=H2.ae.at_.cell (kp+1) Tq;have lG:=H2.ae.at_.dH (kp+1) Tq;have c2:=H2.ae.at_.cell (kp) Tq;have lH:=H2.ae.at_.dH (kp) Tq;have f1:=H2.ae.at_.frozen ((kp+1)*2);have f1k:=H2.ae.at_.frozen ((kp+1)*2+1);have f2:=H2.ae.at_.frozen ((kp)*2);have f2k:=H2.ae.at_.frozen ((kp)*2+1);obtain⟨⟨u1,c3⟩,⟨u2,c4⟩,⟨u3,c5⟩⟩:=H2.ae.second (kp+1) (kp) Tq Tq (BG D (kp+1) Kx (kp));have S3:=aa (H2.ae.swap (kp+1) (kp) Tq Tq);simp only[aP.rv,aP.kv] at c3 c4 c5 S3;go_upto_region 23 with fail;go_big_region_o;clear c1 c2 lG lH c3 c4 c5 f1 f2 f1k f2k;have e9:=GV D (kp+1) Kx Tq hk;rw[show kp+1 - 1=kp by omega] at e9;rw[e9] at S3;generalize hW3:World.drew _=W3 at S3 ⊢;clear hW3;go_wp2_with fail;go_roundw;case rel=>exact⟨kp,by omega,by omega,by go_num,S3.ae⟩
     case measure=>first |(simp[intOf];done)|(simp[intOf];omega)
    ·have t2:decide ((j:Int)<(k:Int))=false:=decide_eq_false Tq;have GN:k=j:=by omega
     exact ZeL
theorem Found.goP{s p:Nat}(hp:p=mid+m - 1)(he:yL a m b mid s0 r0)(h1:cD D a m)(h2:cD D m b)(h:Found D p s0 r0 s r)(hs:s0<=s)(hr:r<=r0)(hc:s<=c)(hc2:c < r):
  (¬lt (D (p - c)) (D c)->Found D p s0 r0 (c+1) r)/\(lt (D (p - c)) (D c)->Found D p s0 r0 s c):=by subst hp;exact Found.go he h1 h2 h hs hr hc hc2
variable{f:Nat}
theorem Ds{s p:Nat}(hp:p=mid+m - 1)(hf:f=mid+m - s)(he:yL a m b mid s0 r0)(h1:cD D a m)(h2:cD D m b)(h:Found D p s0 r0 s s)(hs:s0<=s)(hr:s<=r0):
  cD (bc D s m f) a s/\cD (bc D s m f) s mid/\cD (bc D s m f) mid f/\cD (bc D s m f) f b/\
  ∀x y,a<=x->x < mid->mid<=y->y < b->le (bc D s m f x) (bc D s m f y):=by subst hp hf;exact Wp he h1 h2 h hs hr
theorem zcD.Kav(h:p:=by
 go_loopw [20,21] (λ sv rv wr=>∃i j:Nat,s0<=i/\i<=s/\s<=j/\j<=r0/\sv=af i/\rv=af j/\SS w0 g n wr D) (λ sv rv _=>(intOf rv).toNat - (intOf sv).toNat);case atStart=>exact ZcC
 case round=>exact ZaX):p:=h
theorem zaS.Kab(h:p:=by
 have zs:(mid:Int)+(Kx:Int) - (b:Int)=(s0:Int):=by omega
 open zcD in exact Zbc):p:=h
theorem Wt (w0:World)(g n cap a Kx b mid p s f s0 r0:Nat)(D:Nat->aP ds gp)(w:World)(h:SS w0 g n w D)(hn:n<=1000)(R5:a+1 < Kx)(R6:Kx+1 < b)(hb:b<=n)(gh:mid=(a+b)/ 2)(hp:p=mid+Kx - 1)(hf:f=mid+Kx - s)(tS:s0=mid+Kx - b)(mB:r0=mid)(NF:mid < Kx)
  (hs0:s0<=s) (wQ:s<=r0) (hF:Found D p s0 r0 s s) (q1:cD (bc D s Kx f) a s) (q2:cD (bc D s Kx f) s mid) (q3:cD (bc D s Kx f) mid f) (q4:cD (bc D s Kx f) f b) (q5:∀x y,a<=x->x < mid->mid<=y->y < b->le (bc D s Kx f x) (bc D s Kx f y)) (k0:s < Kx) (k1:Kx < f) (k2:a < s) (k3:s < mid) (k4:mid < f) (k5:f < b)
  (ih:∀a' m' b' (E:Nat->aP ds gp) W,a' < m'->m' < b'->b'<=n->b' - a' < b - a->SS w0 g n W E->cD E a' m'->cD E m' b'->ar 106 #[aI g n cap,af (a':Nat),af (m':Nat),af (b':Nat),.func (.func 39) #[aw gp] #[]] W (br w0 g n a' b' E)):
  ar 106 #[aI g n cap,af a,af Kx,af b,.func (.func 39) #[aw gp] #[]] w (br w0 g n a b D):=by
 open zaS in exact Zas
theorem zcE.Kav(h:p:=by
 go_loopw [20,21] (λ sv rv wr=>∃i j:Nat,s0<=i/\i<=s/\s<=j/\j<=r0/\sv=af i/\rv=af j/\SS w0 g n wr D) (λ sv rv _=>(intOf rv).toNat - (intOf sv).toNat);case atStart=>exact ZcC
 case round=>exact ZaG):p:=h
theorem zaT.Kab(h:p:=by
 have zs:(mid:Int)+(Kx:Int) - (b:Int)=(s0:Int):=by omega
 open zcE in exact Zbc):p:=h
theorem Wu (w0:World)(g n cap a Kx b mid p s f s0 r0:Nat)(D:Nat->aP ds gp)(w:World)(h:SS w0 g n w D)(hn:n<=1000)(R5:a+1 < Kx)(R6:Kx+1 < b)(hb:b<=n)(gh:mid=(a+b)/ 2)(hp:p=mid+Kx - 1)(hf:f=mid+Kx - s)(tS:s0=mid+Kx - b)(mB:r0=mid)(NF:mid < Kx)
  (hs0:s0<=s) (wQ:s<=r0) (hF:Found D p s0 r0 s s) (q1:cD (bc D s Kx f) a s) (q2:cD (bc D s Kx f) s mid) (q3:cD (bc D s Kx f) mid f) (q4:cD (bc D s Kx f) f b) (q5:∀x y,a<=x->x < mid->mid<=y->y < b->le (bc D s Kx f x) (bc D s Kx f y)) (k0:s < Kx) (k1:Kx < f) (k2:a < s) (k3:s < mid) (k4:mid < f) (k5:¬(f < b))
  (ih:∀a' m' b' (E:Nat->aP ds gp) W,a' < m'->m' < b'->b'<=n->b' - a' < b - a->SS w0 g n W E->cD E a' m'->cD E m' b'->ar 106 #[aI g n cap,af (a':Nat),af (m':Nat),af (b':Nat),.func (.func 39) #[aw gp] #[]] W (br w0 g n a' b' E)):
  ar 106 #[aI g n cap,af a,af Kx,af b,.func (.func 39) #[aw gp] #[]] w (br w0 g n a b D):=by
 open zaT in exact Zas
theorem zcF.Kav(h:p:=by
 go_loopw [20,21] (λ sv rv wr=>∃i j:Nat,s0<=i/\i<=s/\s<=j/\j<=r0/\sv=af i/\rv=af j/\SS w0 g n wr D) (λ sv rv _=>(intOf rv).toNat - (intOf sv).toNat);case atStart=>exact ZcC
 case round=>exact ZaO):p:=h
theorem zaU.Kab(h:p:=by
 have zs:(mid:Int)+(Kx:Int) - (b:Int)=(s0:Int):=by omega
 open zcF in exact Zbc):p:=h
theorem Wv (w0:World)(g n cap a Kx b mid p s f s0 r0:Nat)(D:Nat->aP ds gp)(w:World)(h:SS w0 g n w D)(hn:n<=1000)(R5:a+1 < Kx)(R6:Kx+1 < b)(hb:b<=n)(gh:mid=(a+b)/ 2)(hp:p=mid+Kx - 1)(hf:f=mid+Kx - s)(tS:s0=mid+Kx - b)(mB:r0=mid)(NF:mid < Kx)
  (hs0:s0<=s) (wQ:s<=r0) (hF:Found D p s0 r0 s s) (q1:cD (bc D s Kx f) a s) (q2:cD (bc D s Kx f) s mid) (q3:cD (bc D s Kx f) mid f) (q4:cD (bc D s Kx f) f b) (q5:∀x y,a<=x->x < mid->mid<=y->y < b->le (bc D s Kx f x) (bc D s Kx f y)) (k0:s < Kx) (k1:Kx < f) (k2:¬(a < s)) (k3:s < mid) (k4:mid < f) (k5:f < b)
  (ih:∀a' m' b' (E:Nat->aP ds gp) W,a' < m'->m' < b'->b'<=n->b' - a' < b - a->SS w0 g n W E->cD E a' m'->cD E m' b'->ar 106 #[aI g n cap,af (a':Nat),af (m':Nat),af (b':Nat),.func (.func 39) #[aw gp] #[]] W (br w0 g n a' b' E)):
  ar 106 #[aI g n cap,af a,af Kx,af b,.func (.func 39) #[aw gp] #[]] w (br w0 g n a b D):=by
 open zaU in exact Zas
theorem zcG.Kav(h:p:=by
 go_loopw [20,21] (λ sv rv wr=>∃i j:Nat,s0<=i/\i<=s/\s<=j/\j<=r0/\sv=af i/\rv=af j/\SS w0 g n wr D) (λ sv rv _=>(intOf rv).toNat - (intOf sv).toNat);case atStart=>exact ZcC
 case round=>exact Za4):p:=h
theorem zaV.Kab(h:p:=by
 have zs:(mid:Int)+(Kx:Int) - (b:Int)=(s0:Int):=by omega
 open zcG in exact Zbc):p:=h
theorem Ww (w0:World)(g n cap a Kx b mid p s f s0 r0:Nat)(D:Nat->aP ds gp)(w:World)(h:SS w0 g n w D)(hn:n<=1000)(R5:a+1 < Kx)(R6:Kx+1 < b)(hb:b<=n)(gh:mid=(a+b)/ 2)(hp:p=mid+Kx - 1)(hf:f=mid+Kx - s)(tS:s0=mid+Kx - b)(mB:r0=mid)(NF:mid < Kx)
  (hs0:s0<=s) (wQ:s<=r0) (hF:Found D p s0 r0 s s) (q1:cD (bc D s Kx f) a s) (q2:cD (bc D s Kx f) s mid) (q3:cD (bc D s Kx f) mid f) (q4:cD (bc D s Kx f) f b) (q5:∀x y,a<=x->x < mid->mid<=y->y < b->le (bc D s Kx f x) (bc D s Kx f y)) (k0:s < Kx) (k1:Kx < f) (k2:¬(a < s)) (k3:s < mid) (k4:mid < f) (k5:¬(f < b))
  (ih:∀a' m' b' (E:Nat->aP ds gp) W,a' < m'->m' < b'->b'<=n->b' - a' < b - a->SS w0 g n W E->cD E a' m'->cD E m' b'->ar 106 #[aI g n cap,af (a':Nat),af (m':Nat),af (b':Nat),.func (.func 39) #[aw gp] #[]] W (br w0 g n a' b' E)):
  ar 106 #[aI g n cap,af a,af Kx,af b,.func (.func 39) #[aw gp] #[]] w (br w0 g n a b D):=by
 open zaV in exact Zas
theorem zcH.Kav(h:p:=by
 go_loopw [20,21] (λ sv rv wr=>∃i j:Nat,s0<=i/\i<=s/\s<=j/\j<=r0/\sv=af i/\rv=af j/\SS w0 g n wr D) (λ sv rv _=>(intOf rv).toNat - (intOf sv).toNat);case atStart=>exact ZbX
 case round=>exact ZaX):p:=h
theorem zaW.Kab(h:p:=by
 have zs:(0:Int)=0:=by omega
 open zcH in exact Zbc):p:=h
theorem Wx (w0:World)(g n cap a Kx b mid p s f s0 r0:Nat)(D:Nat->aP ds gp)(w:World)(h:SS w0 g n w D)(hn:n<=1000)(R5:a+1 < Kx)(R6:Kx+1 < b)(hb:b<=n)(gh:mid=(a+b)/ 2)(hp:p=mid+Kx - 1)(hf:f=mid+Kx - s)(tS:s0=a)(mB:r0=Kx)(NF:¬(mid < Kx))
  (hs0:s0<=s) (wQ:s<=r0) (hF:Found D p s0 r0 s s) (q1:cD (bc D s Kx f) a s) (q2:cD (bc D s Kx f) s mid) (q3:cD (bc D s Kx f) mid f) (q4:cD (bc D s Kx f) f b) (q5:∀x y,a<=x->x < mid->mid<=y->y < b->le (bc D s Kx f x) (bc D s Kx f y)) (k0:s < Kx) (k1:Kx < f) (k2:a < s) (k3:s < mid) (k4:mid < f) (k5:f < b)
  (ih:∀a' m' b' (E:Nat->aP ds gp) W,a' < m'->m' < b'->b'<=n->b' - a' < b - a->SS w0 g n W E->cD E a' m'->cD E m' b'->ar 106 #[aI g n cap,af (a':Nat),af (m':Nat),af (b':Nat),.func (.func 39) #[aw gp] #[]] W (br w0 g n a' b' E)):
  ar 106 #[aI g n cap,af a,af Kx,af b,.func (.func 39) #[aw gp] #[]] w (br w0 g n a b D):=by
 open zaW in exact Zas
theorem zcI.Kav(h:p:=by
 go_loopw [20,21] (λ sv rv wr=>∃i j:Nat,s0<=i/\i<=s/\s<=j/\j<=r0/\sv=af i/\rv=af j/\SS w0 g n wr D) (λ sv rv _=>(intOf rv).toNat - (intOf sv).toNat);case atStart=>exact ZbX
 case round=>exact ZaG):p:=h
theorem zaX.Kab(h:p:=by
 have zs:(0:Int)=0:=by omega
 open zcI in exact Zbc):p:=h
theorem Wy (w0:World)(g n cap a Kx b mid p s f s0 r0:Nat)(D:Nat->aP ds gp)(w:World)(h:SS w0 g n w D)(hn:n<=1000)(R5:a+1 < Kx)(R6:Kx+1 < b)(hb:b<=n)(gh:mid=(a+b)/ 2)(hp:p=mid+Kx - 1)(hf:f=mid+Kx - s)(tS:s0=a)(mB:r0=Kx)(NF:¬(mid < Kx))
  (hs0:s0<=s) (wQ:s<=r0) (hF:Found D p s0 r0 s s) (q1:cD (bc D s Kx f) a s) (q2:cD (bc D s Kx f) s mid) (q3:cD (bc D s Kx f) mid f) (q4:cD (bc D s Kx f) f b) (q5:∀x y,a<=x->x < mid->mid<=y->y < b->le (bc D s Kx f x) (bc D s Kx f y)) (k0:s < Kx) (k1:Kx < f) (k2:a < s) (k3:s < mid) (k4:mid < f) (k5:¬(f < b))
  (ih:∀a' m' b' (E:Nat->aP ds gp) W,a' < m'->m' < b'->b'<=n->b' - a' < b - a->SS w0 g n W E->cD E a' m'->cD E m' b'->ar 106 #[aI g n cap,af (a':Nat),af (m':Nat),af (b':Nat),.func (.func 39) #[aw gp] #[]] W (br w0 g n a' b' E)):
  ar 106 #[aI g n cap,af a,af Kx,af b,.func (.func 39) #[aw gp] #[]] w (br w0 g n a b D):=by
 open zaX in exact Zas
theorem zcJ.Kav(h:p:=by
 go_loopw [20,21] (λ sv rv wr=>∃i j:Nat,s0<=i/\i<=s/\s<=j/\j<=r0/\sv=af i/\rv=af j/\SS w0 g n wr D) (λ sv rv _=>(intOf rv).toNat - (intOf sv).toNat);case atStart=>exact ZbX
 case round=>exact ZaO):p:=h
theorem zaY.Kab(h:p:=by
 have zs:(0:Int)=0:=by omega
 open zcJ in exact Zbc):p:=h
theorem Wz (w0:World)(g n cap a Kx b mid p s f s0 r0:Nat)(D:Nat->aP ds gp)(w:World)(h:SS w0 g n w D)(hn:n<=1000)(R5:a+1 < Kx)(R6:Kx+1 < b)(hb:b<=n)(gh:mid=(a+b)/ 2)(hp:p=mid+Kx - 1)(hf:f=mid+Kx - s)(tS:s0=a)(mB:r0=Kx)(NF:¬(mid < Kx))
  (hs0:s0<=s) (wQ:s<=r0) (hF:Found D p s0 r0 s s) (q1:cD (bc D s Kx f) a s) (q2:cD (bc D s Kx f) s mid) (q3:cD (bc D s Kx f) mid f) (q4:cD (bc D s Kx f) f b) (q5:∀x y,a<=x->x < mid->mid<=y->y < b->le (bc D s Kx f x) (bc D s Kx f y)) (k0:s < Kx) (k1:Kx < f) (k2:¬(a < s)) (k3:s < mid) (k4:mid < f) (k5:f < b)
  (ih:∀a' m' b' (E:Nat->aP ds gp) W,a' < m'->m' < b'->b'<=n->b' - a' < b - a->SS w0 g n W E->cD E a' m'->cD E m' b'->ar 106 #[aI g n cap,af (a':Nat),af (m':Nat),af (b':Nat),.func (.func 39) #[aw gp] #[]] W (br w0 g n a' b' E)):
  ar 106 #[aI g n cap,af a,af Kx,af b,.func (.func 39) #[aw gp] #[]] w (br w0 g n a b D):=by
 open zaY in exact Zas
theorem zcK.Kav(h:p:=by
 go_loopw [20,21] (λ sv rv wr=>∃i j:Nat,s0<=i/\i<=s/\s<=j/\j<=r0/\sv=af i/\rv=af j/\SS w0 g n wr D) (λ sv rv _=>(intOf rv).toNat - (intOf sv).toNat);case atStart=>exact ZbX
 case round=>exact Za4):p:=h
theorem zaZ.Kab(h:p:=by
 have zs:(0:Int)=0:=by omega
 open zcK in exact Zbc):p:=h
theorem WE (w0:World)(g n cap a Kx b mid p s f s0 r0:Nat)(D:Nat->aP ds gp)(w:World)(h:SS w0 g n w D)(hn:n<=1000)(R5:a+1 < Kx)(R6:Kx+1 < b)(hb:b<=n)(gh:mid=(a+b)/ 2)(hp:p=mid+Kx - 1)(hf:f=mid+Kx - s)(tS:s0=a)(mB:r0=Kx)(NF:¬(mid < Kx))
  (hs0:s0<=s) (wQ:s<=r0) (hF:Found D p s0 r0 s s) (q1:cD (bc D s Kx f) a s) (q2:cD (bc D s Kx f) s mid) (q3:cD (bc D s Kx f) mid f) (q4:cD (bc D s Kx f) f b) (q5:∀x y,a<=x->x < mid->mid<=y->y < b->le (bc D s Kx f x) (bc D s Kx f y)) (k0:s < Kx) (k1:Kx < f) (k2:¬(a < s)) (k3:s < mid) (k4:mid < f) (k5:¬(f < b))
  (ih:∀a' m' b' (E:Nat->aP ds gp) W,a' < m'->m' < b'->b'<=n->b' - a' < b - a->SS w0 g n W E->cD E a' m'->cD E m' b'->ar 106 #[aI g n cap,af (a':Nat),af (m':Nat),af (b':Nat),.func (.func 39) #[aw gp] #[]] W (br w0 g n a' b' E)):
  ar 106 #[aI g n cap,af a,af Kx,af b,.func (.func 39) #[aw gp] #[]] w (br w0 g n a b D):=by
 open zaZ in exact Zas
theorem ziu.Kcu(h:p:=by clear e1 H2;exact ZbZ):p:=h
theorem zhl.KbZ(h:p:=by have u1_:decide (Kx < f)=false:=decide_eq_false k1;have u2_:decide (a < s)=true:=decide_eq_true k2;have u3_:decide (s < mid)=false:=decide_eq_false k3;have u4_:decide (mid < f)=true:=decide_eq_true k4;have u5_:decide (f < b)=true:=decide_eq_true k5;open ziu in exact ZhE):p:=h
theorem zcL.Kav(h:p:=by
 go_loopw [20,21] (λ sv rv wr=>∃i j:Nat,s0<=i/\i<=s/\s<=j/\j<=r0/\sv=af i/\rv=af j/\SS w0 g n wr D) (λ sv rv _=>(intOf rv).toNat - (intOf sv).toNat);case atStart=>exact ZcC
 case round=>
  clear HS;obtain⟨i,j,px,hi,hj,EL,rfl,rfl,hs⟩:=hrel;have H2:=aa hs;clear hs;by_cases hlt:i < j
  ·exact Zaa
  ·open zhl in exact Zfn):p:=h
theorem za0.Kab(h:p:=by
 have zs:(mid:Int)+(Kx:Int) - (b:Int)=(s0:Int):=by omega
 open zcL in exact Zbc):p:=h
theorem adL (w0:World)(g n cap a Kx b mid p s f s0 r0:Nat)(D:Nat->aP ds gp)(w:World)(h:SS w0 g n w D)(hn:n<=1000)(R5:a+1 < Kx)(R6:Kx+1 < b)(hb:b<=n)(gh:mid=(a+b)/ 2)(hp:p=mid+Kx - 1)(hf:f=mid+Kx - s)(tS:s0=mid+Kx - b)(mB:r0=mid)(NF:mid < Kx)
  (hs0:s0<=s) (wQ:s<=r0) (hF:Found D p s0 r0 s s) (q1:cD (bc D s Kx f) a s) (q2:cD (bc D s Kx f) s mid) (q3:cD (bc D s Kx f) mid f) (q4:cD (bc D s Kx f) f b) (q5:∀x y,a<=x->x < mid->mid<=y->y < b->le (bc D s Kx f x) (bc D s Kx f y)) (k0:s < Kx) (k1:¬(Kx < f)) (k2:a < s) (k3:¬(s < mid)) (k4:mid < f) (k5:f < b)
  (ih:∀a' m' b' (E:Nat->aP ds gp) W,a' < m'->m' < b'->b'<=n->b' - a' < b - a->SS w0 g n W E->cD E a' m'->cD E m' b'->ar 106 #[aI g n cap,af (a':Nat),af (m':Nat),af (b':Nat),.func (.func 39) #[aw gp] #[]] W (br w0 g n a' b' E)):
  ar 106 #[aI g n cap,af a,af Kx,af b,.func (.func 39) #[aw gp] #[]] w (br w0 g n a b D):=by
 open za0 in exact Zas
theorem zh1.Kch(h:p:=by
 have u3_:decide (s < mid)=true:=decide_eq_true k3;have KK:decide (mid < f)=false:=decide_eq_false Lw;have e1:bc D s Kx f=D:=by exact ZdO
 have H3:=aa (show SS w0 g n _ (bc D s Kx f) by rw[e1];exact H2.ae);have wk:=aa (show Sw s f D (bc D s Kx f) by rw[e1];exact .refl);clear e1 H2;generalize bc D s Kx f=R at*;go_wp2_with fail;refine(IH.ae a s mid R _ Tq Tq Tq Tq H3.ae Q1.ae HFN.ae).mono ?_;rintro e_ w6 ⟨rfl,E,hs,hw,ho⟩;have H4:=aa hs;have HW:=aa hw;have HO:=aa ho;clear hs hw ho H3;go_wp2_with fail;have EO:=aa (Q3.ae.congr (E:=E) λ x h1 h2=>HW.ae.ae x (.inr h1));have EP:=aa (Q4.ae.congr (E:=E) λ x h1 h2=>HW.ae.ae x (.inr Tq));have H6:=aa (show cD E mid b from by
  rcases(show f=mid\/f=b by omega)with e | e
  ·have:=EP.ae;rwa [e] at this
  ·have:=EO.ae;rwa [e] at this)
 exact ZbG):p:=h
theorem zcM.Kav(h:p:=by
 go_loopw [20,21] (λ sv rv wr=>∃i j:Nat,s0<=i/\i<=s/\s<=j/\j<=r0/\sv=af i/\rv=af j/\SS w0 g n wr D) (λ sv rv _=>(intOf rv).toNat - (intOf sv).toNat);case atStart=>exact ZbX
 case round=>
  clear HS;obtain⟨i,j,px,hi,hj,EL,rfl,rfl,hs⟩:=hrel;have H2:=aa hs;clear hs;by_cases hlt:i < j
  ·exact Zaa
  ·open zh1 in exact Zgr):p:=h
theorem za1.Kab(h:p:=by
 have zs:(0:Int)=0:=by omega
 open zcM in exact Zbc):p:=h
theorem R9 (w0:World)(g n cap a Kx b mid p s f s0 r0:Nat)(D:Nat->aP ds gp)(w:World)(h:SS w0 g n w D)(hn:n<=1000)(R5:a+1 < Kx)(R6:Kx+1 < b)(hb:b<=n)(gh:mid=(a+b)/ 2)(hp:p=mid+Kx - 1)(hf:f=mid+Kx - s)(tS:s0=a)(mB:r0=Kx)(NF:¬(mid < Kx))
  (hs0:s0<=s) (wQ:s<=r0) (hF:Found D p s0 r0 s s) (q1:cD (bc D s Kx f) a s) (q2:cD (bc D s Kx f) s mid) (q3:cD (bc D s Kx f) mid f) (q4:cD (bc D s Kx f) f b) (q5:∀x y,a<=x->x < mid->mid<=y->y < b->le (bc D s Kx f x) (bc D s Kx f y)) (k0:¬(s < Kx)) (k2:a < s) (k3:s < mid) (Lw:¬(mid < f))
  (ih:∀a' m' b' (E:Nat->aP ds gp) W,a' < m'->m' < b'->b'<=n->b' - a' < b - a->SS w0 g n W E->cD E a' m'->cD E m' b'->ar 106 #[aI g n cap,af (a':Nat),af (m':Nat),af (b':Nat),.func (.func 39) #[aw gp] #[]] W (br w0 g n a' b' E)):
  ar 106 #[aI g n cap,af a,af Kx,af b,.func (.func 39) #[aw gp] #[]] w (br w0 g n a b D):=by
 open za1 in exact Zas
theorem ziv.Kcu(h:p:=by clear e1 H2;exact Zam):p:=h
theorem zh2.Kch(h:p:=by have u3_:decide (s < mid)=false:=decide_eq_false k3;have KK:decide (mid < f)=false:=decide_eq_false Lw;open ziv in exact ZhE):p:=h
theorem zcN.Kav(h:p:=by
 go_loopw [20,21] (λ sv rv wr=>∃i j:Nat,s0<=i/\i<=s/\s<=j/\j<=r0/\sv=af i/\rv=af j/\SS w0 g n wr D) (λ sv rv _=>(intOf rv).toNat - (intOf sv).toNat);case atStart=>exact ZbX
 case round=>
  clear HS;obtain⟨i,j,px,hi,hj,EL,rfl,rfl,hs⟩:=hrel;have H2:=aa hs;clear hs;by_cases hlt:i < j
  ·exact Zaa
  ·open zh2 in exact Zgr):p:=h
theorem za2.Kab(h:p:=by
 have zs:(0:Int)=0:=by omega
 open zcN in exact Zbc):p:=h
theorem S0 (w0:World)(g n cap a Kx b mid p s f s0 r0:Nat)(D:Nat->aP ds gp)(w:World)(h:SS w0 g n w D)(hn:n<=1000)(R5:a+1 < Kx)(R6:Kx+1 < b)(hb:b<=n)(gh:mid=(a+b)/ 2)(hp:p=mid+Kx - 1)(hf:f=mid+Kx - s)(tS:s0=a)(mB:r0=Kx)(NF:¬(mid < Kx))
  (hs0:s0<=s) (wQ:s<=r0) (hF:Found D p s0 r0 s s) (q1:cD (bc D s Kx f) a s) (q2:cD (bc D s Kx f) s mid) (q3:cD (bc D s Kx f) mid f) (q4:cD (bc D s Kx f) f b) (q5:∀x y,a<=x->x < mid->mid<=y->y < b->le (bc D s Kx f x) (bc D s Kx f y)) (k0:¬(s < Kx)) (k2:a < s) (k3:¬(s < mid)) (Lw:¬(mid < f))
  (ih:∀a' m' b' (E:Nat->aP ds gp) W,a' < m'->m' < b'->b'<=n->b' - a' < b - a->SS w0 g n W E->cD E a' m'->cD E m' b'->ar 106 #[aI g n cap,af (a':Nat),af (m':Nat),af (b':Nat),.func (.func 39) #[aw gp] #[]] W (br w0 g n a' b' E)):
  ar 106 #[aI g n cap,af a,af Kx,af b,.func (.func 39) #[aw gp] #[]] w (br w0 g n a b D):=by
 open za2 in exact Zas
theorem Dt{p:Nat}(hp:p=mid+m - 1)(he:yL a m b mid s0 r0)(h1:cD D a m)(h2:cD D m b)(hsr:s0<=r0):∃s,s0<=s/\s<=r0/\Found D p s0 r0 s s:=by
 have key:∀d s,r0 - s<=d->s0<=s->s<=r0->Found D p s0 r0 s r0->∃s,s0<=s/\s<=r0/\Found D p s0 r0 s s:=by
  intro d
  induction d with
  | zero=>intro s h3 h4 h5 h6;exact⟨s,h4,h5,by rw[show r0=s by omega] at h6 ⊢;exact h6⟩
  | succ d ih=>
    intro s h3 h4 h5 h6;by_cases hs:s=r0
    ·exact⟨s,h4,h5,by rw[<- hs] at h6 ⊢;exact h6⟩
    ·have k:=Found.goP hp he h1 h2 h6 h4 (Nat.le_refl _) (Nat.le_refl s) Tq;by_cases hl:lt (D (p - s)) (D s)
     ·exact⟨s,h4,h5,k.2 hl⟩
     ·exact ih (s+1) Tq Tq Tq (k.1 hl)
 exact key (r0 - s0) s0 (Nat.le_refl _) (Nat.le_refl _) hsr ⟨λ c h1 h2=>by omega,λ c h1 h2=>by omega⟩
theorem zim.Kcr(h:p:=by
 by_cases c3:m < f
 ·by_cases c4:a < s <;> by_cases c5:f < b
  ·exact Wt w0 g n cap a m b mid p s f s0 r0 D w h hn Tq Tq hb gh hp hf hs0 wQ hm hs1 hs2 hF e1 e2 e3 e4 e5 Tq c3 c4 Tq Tq c5 ih'
  ·exact Wu w0 g n cap a m b mid p s f s0 r0 D w h hn Tq Tq hb gh hp hf hs0 wQ hm hs1 hs2 hF e1 e2 e3 e4 e5 Tq c3 c4 Tq Tq c5 ih'
  ·exact Wv w0 g n cap a m b mid p s f s0 r0 D w h hn Tq Tq hb gh hp hf hs0 wQ hm hs1 hs2 hF e1 e2 e3 e4 e5 Tq c3 c4 Tq Tq c5 ih'
  ·exact Ww w0 g n cap a m b mid p s f s0 r0 D w h hn Tq Tq hb gh hp hf hs0 wQ hm hs1 hs2 hF e1 e2 e3 e4 e5 Tq c3 c4 Tq Tq c5 ih'
 ·exact adL w0 g n cap a m b mid p s f s0 r0 D w h hn Tq Tq hb gh hp hf hs0 wQ hm hs1 hs2 hF e1 e2 e3 e4 e5 Tq c3 Tq Tq Tq Tq ih'):p:=h
theorem zin.Kcr(h:p:=by
 by_cases c3:s < m
 ·by_cases c4:a < s <;> by_cases c5:f < b
  ·exact Wx w0 g n cap a m b mid p s f s0 r0 D w h hn Tq Tq hb gh hp hf hs0 wQ hm hs1 hs2 hF e1 e2 e3 e4 e5 c3 Tq c4 Tq Tq c5 ih'
  ·exact Wy w0 g n cap a m b mid p s f s0 r0 D w h hn Tq Tq hb gh hp hf hs0 wQ hm hs1 hs2 hF e1 e2 e3 e4 e5 c3 Tq c4 Tq Tq c5 ih'
  ·exact Wz w0 g n cap a m b mid p s f s0 r0 D w h hn Tq Tq hb gh hp hf hs0 wQ hm hs1 hs2 hF e1 e2 e3 e4 e5 c3 Tq c4 Tq Tq c5 ih'
  ·exact WE w0 g n cap a m b mid p s f s0 r0 D w h hn Tq Tq hb gh hp hf hs0 wQ hm hs1 hs2 hF e1 e2 e3 e4 e5 c3 Tq c4 Tq Tq c5 ih'
 ·by_cases c4:s < mid
  ·exact R9 w0 g n cap a m b mid p s f s0 r0 D w h hn Tq Tq hb gh hp hf hs0 wQ hm hs1 hs2 hF e1 e2 e3 e4 e5 c3 Tq c4 Tq ih'
  ·exact S0 w0 g n cap a m b mid p s f s0 r0 D w h hn Tq Tq hb gh hp hf hs0 wQ hm hs1 hs2 hF e1 e2 e3 e4 e5 c3 Tq c4 Tq ih'):p:=h
theorem TD (w0:World)(g n cap:Nat)(hn:n<=1000):∀(N a m b:Nat) (D:Nat->aP ds gp) (w:World),b - a<=N->a < m->m < b->b<=n->SS w0 g n w D->cD D a m->cD D m b->
  ar 106 #[aI g n cap,af a,af m,af b,.func (.func 39) #[aw gp] #[]] w (br w0 g n a b D):=by
 intro N
 induction N with
 | zero=>intro a m b D w h0 h1 h2;omega
 | succ N ih=>
   intro a m b D w h0 h1 h2 hb h q1 q2;by_cases c1:m=a+1
   ·subst c1;have:=adJ w0 g n cap a b D w h hn h2 hb q2;exact ZeZ
   by_cases c2:b=m+1
   ·subst c2;have:=adK w0 g n cap a m D w h hn Tq hb q1;exact ZeZ
   have ih':∀a' m' b' (E:Nat->aP ds gp) W,a' < m'->m' < b'->b'<=n->b' - a' < b - a->SS w0 g n W E->cD E a' m'->cD E m' b'->ar 106 #[aI g n cap,af (a':Nat),af (m':Nat),af (b':Nat),.func (.func 39) #[aw gp] #[]] W (br w0 g n a' b' E):=
    λ a' m' b' E W k1 k2 k3 k4 k5 k6 k7=>ih a' m' b' E W Tq k1 k2 k3 k5 k6 k7
   obtain⟨mid,gh⟩:∃q:Nat,q=(a+b)/ 2:=⟨_,rfl⟩;obtain⟨p,hp⟩:∃q:Nat,q=mid+m - 1:=⟨_,rfl⟩;by_cases hm:mid < m
   ·obtain⟨s0,hs0⟩:∃q:Nat,q=mid+m - b:=⟨_,rfl⟩;obtain⟨r0,wQ⟩:∃q:Nat,q=mid:=⟨_,rfl⟩;have he:yL a m b mid s0 r0:=⟨⟨h1,h2⟩,gh,.inl ⟨by omega,hs0,wQ⟩⟩;open zim in exact Zhs
   ·obtain⟨s0,hs0⟩:∃q:Nat,q=a:=⟨_,rfl⟩;obtain⟨r0,wQ⟩:∃q:Nat,q=m:=⟨_,rfl⟩;have he:yL a m b mid s0 r0:=⟨⟨h1,h2⟩,gh,.inr ⟨by omega,hs0,wQ⟩⟩;open zin in exact Zhs
def Rb (E:Nat->aP ds gp)(s n:Nat):Prop:=∀a,s ∣ a->cD E a (min (a+s) n)
variable{d:Nat}
theorem Du{x y:Nat}(h1:d ∣ x)(h2:d ∣ y)(h:x < y):x+d<=y:=by obtain⟨u,rfl⟩:=h1;obtain⟨v,rfl⟩:=h2;have:u < v:=Nat.lt_of_mul_lt_mul_left h;have h3:=Nat.mul_le_mul_left d (show u+1<=v by omega);rw[Nat.mul_add,Nat.mul_one] at h3;exact h3
def Low (E:Nat->aP ds gp)(s a:Nat):Prop:=∀x,s ∣ x->x+s<=a->cD E x (x+s)
def S1 (E:Nat->aP ds gp)(s a n:Nat):Prop:=∀x,s ∣ x->a<=x->cD E x (min (x+s) n)
theorem Low.step{s:Nat}(h:Low E s a)(hd:s ∣ a)(hw:Sw a (a+s) E F)(ho:cD F a (a+s)):Low F s (a+s):=by
 intro x hx hle;rcases Nat.lt_or_ge x a with h1 | h1
 ·have:=Du hx hd h1;exact(h x hx this).congr λ i h2 h3=>hw.ae i (.inl Tq)
 ·rw[show x=a by omega];exact ho
theorem S1.step{s:Nat}(h:S1 E s a n)(hab:a<=b)(hw:Sw a b E F):S1 F s b n:=λ x hx hle=>(h x hx Tq).congr λ i h2 h3=>hw.ae i (.inr Tq)
theorem uO{s:Nat}(h:Low E s a)(hd:s ∣ a)(han:a<=n)(hn:n < a+s)(hw:Sw a n E F)(ho:cD F a n):Rb F s n:=by
 intro x hx;rcases Nat.lt_trichotomy x a with h1 | h1 | h1
 ·have h2:=Du hx hd h1;exact((h x hx h2).congr λ i h3 h4=>hw.ae i (.inl Tq)).mono (Nat.le_refl _) Tq
 ·subst h1;exact ho.mono (Nat.le_refl _) Tq
 ·have h2:=Du hd hx h1;exact .none Tq
theorem zid.Kcn(h:p:=by
 have HO:=aa (oC.ae.step Aa.ae q5 ho);have HH3:=aa (G6.ae.step Tq q5);have PX:=aa (Nat.dvd_add Aa.ae (Nat.dvd_refl (2*j)));clear q4 q5 ho Aa S2 oC G6 Q5 Q4 HC;go_wp2_with fail;go_roundw;case rel=>exact⟨a+2*j,G,PX.ae,by omega,by go_num,by go_num,H2.ae,HW.ae,HO.ae,HH3.ae⟩
 case measure=>exact Za2):p:=h
theorem zie.Kcn(h:p:=by
 have HO:=aa (uO oC.ae Aa.ae han Tq q5 ho);clear q4 q5 ho Aa S2 oC G6 Q5 Q4 HC;go_wp2_with fail;go_roundw;case rel=>exact⟨2*j,G,by omega,by omega,by go_num,H2.ae,HW.ae,HO.ae⟩
 case measure=>exact Za2):p:=h
theorem Rc (w0:World)(g n cap:Nat)(D:Nat->aP ds gp)(w:World)(h:SS w0 g n w D)(hn:n<=1000):
  ar 70 #[aI g n cap,af n,.func (.func 39) #[aw gp] #[]] w (br w0 g n 0 n D):=by
 have HS:=aa h;clear h;go_enter Tryz.func70,Tryz.ntmps70;go_wp2_with fail;go_loopw [7,8] (λ av bv wr=>∃(a:Nat) (E:Nat->aP ds gp),20 ∣ a/\a<=n/\av=af a/\bv=af (a+20)/\SS w0 g n wr E/\Sw 0 n D E/\Low E 20 a) (λ av _ _=>n - (intOf av).toNat);case atStart=>exact⟨0,D,⟨0,rfl⟩,by omega,rfl,rfl,HS.ae,.refl,λ x h1 h2=>by omega⟩
 case round=>
  clear HS;obtain⟨a,E,D9,han,rfl,rfl,q4,q5,Az⟩:=hrel;have Q4:=aa q4;have Q5:=aa q5;have oC:=aa Az;have Aa:=aa D9;clear q4 q5 Az D9;by_cases hlt:a+20<=n
  ·go_wp2_with fail;refine(tR w0 g n cap a (a+20) E _ Q4.ae hn Tq Tq).mono ?_;rintro e_ w1 ⟨rfl,F,q4,q5,ho⟩;have H2:=aa q4;have HW:=aa (Q5.ae.trans (q5.mono Tq Tq));have HO:=aa (oC.ae.step Aa.ae q5 ho);have PX:=aa (Nat.dvd_add Aa.ae (Nat.dvd_refl 20));clear q4 q5 ho Aa oC Q5 Q4;go_wp2_with fail;go_roundw;case rel=>exact⟨a+20,F,PX.ae,by omega,by go_num,by go_num,H2.ae,HW.ae,HO.ae⟩
   case measure=>exact Za2
  ·go_wp2_with fail;refine(tR w0 g n cap a n E _ Q4.ae hn Tq Tq).mono ?_;rintro e_ w1 ⟨rfl,F,q4,q5,ho⟩;have H2:=aa q4;have HW:=aa (Q5.ae.trans (q5.mono Tq Tq));have HO:=aa (uO oC.ae Aa.ae han Tq q5 ho);clear q4 q5 ho Aa oC Q5 Q4;go_wp2_with fail;go_loopw [6] (λ sv wr=>∃(j:Nat) (E:Nat->aP ds gp),0 < j/\j<=2000/\sv=af j/\SS w0 g n wr E/\Sw 0 n D E/\Rb E j n) (λ sv _=>n - (intOf sv).toNat);case atStart=>exact⟨20,F,by omega,by omega,rfl,H2.ae,HW.ae,HO.ae⟩
   case round=>
    clear H2 HW HO;obtain⟨j,E,hj0,hj,rfl,q4,q5,Az⟩:=hrel;have Q4:=aa q4;have Q5:=aa q5;have oC:=aa Az;clear q4 q5 Az;by_cases hlt:j < n
    ·go_wp2_with fail;go_loopw [7,8] (λ av bv wr2=>∃(a:Nat) (E:Nat->aP ds gp),2*j ∣ a/\a<=n/\av=af a/\bv=af (a+2*j:Nat)/\SS w0 g n wr2 E/\Sw 0 n D E/\Low E (2*j) a/\S1 E j a n) (λ av _ _=>n - (intOf av).toNat);case atStart=>exact⟨0,E,⟨0,rfl⟩,by omega,rfl,by go_num,Q4.ae,Q5.ae,λ x h1 h2=>by omega,λ x h1 h2=>oC.ae x h1⟩
     case round=>
      clear Q4 Q5 oC;obtain⟨a,E,D9,han,rfl,rfl,q4,q5,Az,TG⟩:=hrel;have Q4:=aa q4;have Q5:=aa q5;have oC:=aa Az;have G6:=aa TG;have Aa:=aa D9;have S2:=aa (show j ∣ a from Nat.dvd_trans ⟨2,by omega⟩ D9);clear q4 q5 Az TG D9;by_cases td:a+2*j<=n
      ·have hC:=TD w0 g n cap hn (2*j) a (a+j) (a+2*j) E wr Tq Tq Tq td Q4.ae ((G6.ae a S2.ae (Nat.le_refl _)).mono (Nat.le_refl _) Tq) ((G6.ae (a+j) (Nat.dvd_add S2.ae (Nat.dvd_refl j)) Tq).mono (Nat.le_refl _) Tq);rw[show((a+j:Nat):Int)=(a:Int)+(j:Int) by omega,show((a+2*j:Nat):Int)=(a:Int)+2*(j:Int) by omega] at hC;open zid in exact ZgZ
      ·by_cases Uv:a+j < n
       ·have hC:=TD w0 g n cap hn (2*j) a (a+j) n E wr Tq Tq Uv (Nat.le_refl _) Q4.ae ((G6.ae a S2.ae (Nat.le_refl _)).mono (Nat.le_refl _) Tq) ((G6.ae (a+j) (Nat.dvd_add S2.ae (Nat.dvd_refl j)) Tq).mono (Nat.le_refl _) Tq);rw[show((a+j:Nat):Int)=(a:Int)+(j:Int) by omega] at hC;open zie in exact ZgZ
       ·have HO:=aa (uO oC.ae Aa.ae han Tq .refl ((G6.ae a S2.ae (Nat.le_refl _)).mono (Nat.le_refl _) Tq));clear oC G6 Aa S2;go_wp2_with fail;go_roundw;case rel=>exact⟨2*j,E,by omega,by omega,by go_num,Q4.ae,Q5.ae,HO.ae⟩
        case measure=>exact Za2
    ·have HE:=aa (show cD E 0 n from(oC.ae 0 ⟨0,rfl⟩).mono (Nat.le_refl _) Tq);go_wp2_with fail;exact bodyPost_ret (v:=.tuple #[]) Tbk rfl ⟨rfl,E,Q4.ae,Q5.ae,HE.ae⟩
theorem Dv (w0:World)(g n cap:Nat)(D:Nat->aP ds gp)(w:World)(h:SS w0 g n w D)(hn:n<=1000):
  ar 38 #[aI g n cap,.func (.func 39) #[aw gp] #[]] w (br w0 g n 0 n D):=by have HL:=Rc w0 g n cap D w h hn;clear h;go_enter Tryz.func38,Tryz.ntmps38;go_wp2_with fail;refine HL.mono ?_;rintro e w1 ⟨rfl,b1⟩;go_wp2_with fail;exact bodyPost_ret (v:=.tuple #[]) Tbl rfl ⟨rfl,b1⟩
def wR (w:World)(e:Ending)(w':World):Prop:=e=.returned (.tuple #[])/\w'=w
theorem Dw (A:Option Addr)(cap:Nat)(w:World):
  ar 105 #[.slice A 0 cap,af 0,af 0,.func (.func 39) #[aw gp] #[]] w (wR w):=by
 go_enter Tryz.func105,Tryz.ntmps105;go_wp2_with fail;go_loopw [8] (λ iv wr=>iv=af 1/\wr=w) (λ _ _=>0);case atStart=>exact Zft
 case round=>obtain⟨rfl,rfl⟩:=hrel;go_wp2_with fail;exact bodyPost_ret (v:=.tuple #[]) Tbg rfl ⟨rfl,rfl⟩
theorem Nd (A:Option Addr)(cap:Nat)(w:World):
  ar 70 #[.slice A 0 cap,af 0,.func (.func 39) #[aw gp] #[]] w (wR w):=by
 go_enter Tryz.func70,Tryz.ntmps70;go_wp2_with fail;go_loopw [7,8] (λ av bv wr=>av=af 0/\bv=af 20/\wr=w) (λ _ _ _=>0);case atStart=>exact Zhz
 case round=>
  obtain⟨rfl,rfl,rfl⟩:=hrel;go_wp2_with fail;refine(Dw A cap _).mono ?_;rintro e_ w1 ⟨rfl,rfl⟩;go_wp2_with fail;go_loopw [6] (λ sv wr=>sv=af 20/\wr=w1) (λ _ _=>0);case atStart=>exact Zft
  case round=>obtain⟨rfl,rfl⟩:=hrel;go_wp2_with fail;exact bodyPost_ret (v:=.tuple #[]) Tbk rfl ⟨rfl,rfl⟩
theorem Ah (A:Option Addr)(cap:Nat)(w:World):
  ar 38 #[.slice A 0 cap,.func (.func 39) #[aw gp] #[]] w (wR w):=by go_enter Tryz.func38,Tryz.ntmps38;go_wp2_with fail;refine(Nd A cap w).mono ?_;rintro e_ w1 ⟨rfl,rfl⟩;go_wp2_with fail;exact bodyPost_ret (v:=.tuple #[]) Tbl rfl ⟨rfl,rfl⟩
end Go.Proofs.YtndgjggokjickaaGreatDoor.L
namespace Go.Proofs.YtndgjggokjickaaGreatDoor
variable{p:Prop}
set_option maxHeartbeats 90000000
set_option maxRecDepth 100000
open Go.ChangeShapes Go.WideShapes Go.ChangeAt Go.RowKit List
set_option linter.unusedVariables false
set_option linter.unusedSimpArgs false
noncomputable def ey:Code:=Tryz.f11.body.getD .skip
def XY (f:Nat->Value):Array Value:= #[f 0,f 1,f 2,f 3,f 4,f 5,f 6,f 7,f 8,f 9,f 10,f 11,f 12,f 13,f 14,f 15,f 16,f 17,f 18,f 19,f 20,f 21,f 22,f 23,f 24,f 25,f 26,f 27,f 28,f 29,f 30,f 31,f 32,f 33,f 34,f 35,f 36,f 37,f 38,f 39,f 40,f 41,f 42,f 43,f 44,f 45,f 46,f 47,f 48,f 49,f 50,f 51,f 52,f 53,f 54,f 55,f 56,f 57,f 58,f 59,f 60,f 61,f 62,f 63,f 64,f 65,f 66,f 67,f 68,f 69,f 70,f 71,f 72,f 73,f 74,f 75,f 76,f 77,f 78,f 79,f 80,f 81,f 82,f 83,f 84,f 85,f 86,f 87,f 88,f 89,f 90,f 91,f 92,f 93,f 94,f 95,f 96,f 97,f 98,f 99,f 100,f 101,f 102,f 103,f 104,f 105,f 106,f 107,f 108,f 109,f 110,f 111,f 112,f 113,f 114,f 115,f 116,f 117,f 118,f 119,f 120,f 121,f 122,f 123,f 124,f 125,f 126,f 127,f 128,f 129,f 130,f 131,f 132,f 133,f 134,f 135,f 136,f 137,f 138,f 139,f 140,f 141,f 142,f 143,f 144,f 145,f 146,f 147,f 148,f 149,f 150,f 151,f 152,f 153,f 154,f 155,f 156,f 157,f 158,f 159,f 160,f 161,f 162,f 163,f 164,f 165,f 166,f 167,f 168,f 169,f 170,f 171,f 172,f 173,f 174,f 175,f 176,f 177,f 178,f 179,f 180,f 181,f 182]
theorem yy (T:Array Value)(h:T.size=183):∃f:Nat->Value,T=XY f:=by
 refine⟨λ i=>T.getD i undef,?_⟩;apply Array.ext
 ·rw[h];rfl
 ·intro i h1 h2
  have e:∀(f:Nat->Value) (i:Nat) (hi:i <(XY f).size),(XY f)[i]=f i:=by
   intro f i hi;have h3:(XY f).toList=(List.range 183).map f:=rfl;have h4:(XY f)[i]=(XY f).toList[i]' Tau:=by simp
   exact ZfN
  rw[e];simp[Array.getD,h1]
def ajb (w:World)(LA:Option Addr)(n:Nat)(D:Nat->aW×aW):Prop:=n=0\/∃g,LA=some ⟨g,0,none⟩/\g < w.heap.size/\∀i,i < n->w.cell? ⟨g,i*2,none⟩=some (.slice (D i).1.A (D i).1.l.length (D i).1.c)/\w.cell? ⟨g,i*2+1,none⟩=some (.slice (D i).2.A (D i).2.l.length (D i).2.c)
def rowsOf (D:Nat->aW×aW)(n:Nat):List aW:=(List.range n).map λ i=>(D i).1
theorem Nf (D:Nat->aW×aW)(n:Nat):rowsOf D (n+1)=rowsOf D n++ [(D n).1]:=by unfold rowsOf;rw[range_succ,map_append];rfl
theorem Dx (D:Nat->aW×aW)(n:Nat):(rowsOf D n).length=n:=by simp[rowsOf]
theorem zgY.KbQ(h:p:=by
 obtain⟨OA,oc,LD,_⟩:=HO.ae.reads;subst LD;have HOX:=HO;have avC:=HO.ae.other Mx.ae WC;clear HO;go_wp2_with fail;refine HH.ae _ _ (.slice OA (rowsOf D k).length oc) rfl rfl rfl (((Mx.ae.aT 0 _).aT 1 _).aT 2 _) ?_ (aC (aC (aC (aR hb) _ _) _ _) _ _);refine HOX.ae.keep λ KK Kx=>?_
 have hn:KK≠g6:=λ e=>avC TaQ
 rw[Below.heap_setCell _ ⟨g6,2,none⟩ _ KK hn,Below.heap_setCell _ ⟨g6,1,none⟩ _ KK hn,Below.heap_setCell _ ⟨g6,0,none⟩ _ KK hn]):p:=h
theorem adM (gp g6 n lc:Nat)(LA:Option Addr)(D:Nat->aW×aW)(HA:Option Addr)(hn hc:Nat)(T:Array Value)(hT:T.size=183)(h6:T.getD 6 undef=aw g6)(h8:T.getD 8 undef=aw gp)(WG:T.getD 13 undef=.slice LA n lc)(d:List Deferred)(w:World)(Q:Exit->Act->World->Prop)
  (ug:n<=1000000) (sB:gp < w.heap.size) (hch:w.cell? ⟨gp,12,none⟩=some (.slice HA hn hc)) (rH:aB w g6 33 #[az,az,af 0]) (hL:ajb w LA n D)
  (h:∀a W ov,a.defers=d->a.tmps.getD 6 undef=aw g6->a.tmps.getD 7 undef=af 0->aB W g6 33 #[.slice HA hn hc,ov,af n]->aH bX 38 1 W w.heap.size ov (rowsOf D n)->w.grownBy W (some g6)->Q .ret a W):
  (fA ey 14).wp Tryz.prog Q { tmps:=T,defers:=d } w:=by
 obtain⟨f,rfl⟩:=yy T hT;have h6:f 6=_:=h6;have h8:f 8=_:=h8;have WG:f 13=_:=WG;simp only[XY,h6,h8,WG];clear h6 h8 WG;clear h6 h8 WG hT;have HH:=aa h;have xe:=aa rH;have HL:=aa hL;have b1:=ah w (.cells #[.slice HA hn hc,az,af n] 33);have cK:=aB.new w 33 #[.slice HA hn hc,az,af n];have eL:=aa b1;have HX:=aa cK;clear h rH hL b1 cK;simp only[ey,fA,Tryz.f11,Option.getD_some];go_upto_region 33 with fail;clear hch sB;obtain⟨g,hg⟩:∃g,g=w.heap.size:=⟨_,rfl⟩;rw[<- hg] at HX ⊢;have wj:=aa hg;clear hg;generalize w.alloc _=W1 at*;go_wp2_with fail;go_loopw [170] (λ i wr=>∃(k:Nat) (ov:Value),k<=n/\i=af k/\aB wr g 33 #[.slice HA hn hc,ov,af n]/\aH bX 38 1 wr w.heap.size ov (rowsOf D k)/\aj w wr) (λ i _=>n - (intOf i).toNat);case atStart=>exact⟨0,_,Nat.zero_le _,rfl,HX.ae,aH.nil,eL.ae⟩
 case round=>
  clear eL HX;obtain⟨k,ov,hk,rfl,hR,hO,hb⟩:=hrel;have Q3:=aa hR;have HO:=aa hO;clear hR hO;by_cases hlt:k < n
  ·obtain⟨lb,hA,Ed,bU⟩:∃KK,LA=some ⟨KK,0,none⟩/\KK < w.heap.size/\∀i,i < n->w.cell? ⟨KK,i*2,none⟩=some (.slice (D i).1.A (D i).1.l.length (D i).1.c)/\w.cell? ⟨KK,i*2+1,none⟩=some (.slice (D i).2.A (D i).2.l.length (D i).2.c):=by
    rcases HL.ae with h | h
    ·omega
    ·exact h
   obtain⟨z0,z1⟩:=bU k hlt;have y0:=(hb.cell (p:=⟨lb,k*2,none⟩) Ed).trans z0;have y1:=(hb.cell (p:=⟨lb,k*2+1,none⟩) Ed).trans z1;subst hA;have HS:=aa (Nf D k);have AJ:=aa (Dx D k);generalize (D k).1=r at*;generalize (D k).2=s at*;generalize rowsOf D k=rs at*;clear Ed bU z0 z1;go_upto_region 36 with fail;have b1:=ah wr (.cells #[.slice r.A r.l.length r.c,.slice s.A s.l.length s.c] 91);have cK:=aB.new wr 91 #[.slice r.A r.l.length r.c,.slice s.A s.l.length s.c];have cb:=cK.cell 0;simp only[getElem?_toArray,getElem?_cons_zero] at cb;have NV:=aa (Q3.ae.later b1);have xU:=aa (HO.ae.later b1);have hb1:=ai.then hb b1;have HK:=aa cK;clear b1 Q3 HO hb cK y0 y1;generalize hw1:wr.alloc (.cells #[.slice r.A r.l.length r.c,.slice s.A s.l.length s.c] 91)=W2 at*;generalize wr.heap.size=gl at*;clear hw1;have a1:=NV.ae.cell 1;simp only[Uaa] at a1;have b3:=ah W2 (.cells #[.slice r.A r.l.length r.c] 38);have hG:=aB.new W2 38 #[.slice r.A r.l.length r.c];have XM:=aa (NV.ae.later b3);have LQ:=aa (xU.ae.later b3);have hb2:=ai.then hb1 b3
   have HG:=aa hG;have hbase:=hb2.size;have kH:=AJ.ae;clear b3 hG NV xU;go_wp2_with (first
    |(at_builtin
      refine aU rfl (.tmp 175) (.tmp 178) 29 rfl _ 24 Tryz.underlying29 qU rfl Tq r rfl TaA rfl LQ.ae W2.heap.size rfl HG.ae Tq Tq hbase ?_
      intro v4 w4 o4 g4
      obtain⟨A4,c4,hv4,_⟩:=o4.reads
      rw[length_append,length_singleton,kH] at hv4
      subst hv4
      have G4:=aa (XM.ae.ky LQ.ae WC g4)
      have gc:=G4.ae.cell 1
      have gf:=G4.ae.frozen 1
      simp only[Uaa] at gc
      have B4:=aa (bj LQ.ae g4 hbase)
      have O4:=aa o4
      clear o4 g4))
   go_roundw;case rel=>have hgn:=O4.ae.other G4.ae WC;refine⟨k+1,_,hlt,by go_num,G4.ae.aT 1 _,?_,(hb2.trans B4.ae).setCell TaO _⟩;rw[HS.ae];exact O4.ae.keep λ KK Kx=>Below.heap_setCell _ ⟨g,1,none⟩ _ KK (λ e=>hgn TaQ)
   case measure=>exact Za2
  ·have fJ:k=n:=by omega
   subst fJ;have a0:=Q3.ae.cell 0;have a1:=Q3.ae.cell 1;have a2:=Q3.ae.cell 2;simp only[Uaa] at a0 a1 a2;have Mx:=aa (show aB wr g6 33 #[az,az,af 0] from(hb.block g6 xe.ae.lt).trans xe.ae);open zgY in exact ZeO
def eN (x:aW×aW):List Value:=[.slice x.1.A x.1.l.length x.1.c,.slice x.2.A x.2.l.length x.2.c]
def Ng (x:aW×aW):eG:=⟨x.1.l,x.2.l⟩
theorem TE:(Tryz.prog.info? 91).map (λ i=>(i.zero,i.size,i.bytes))=some (some (.agg #[az,az]),2,48):=by exact Zgu
variable{ds:List Bool}{gp:Nat}
def toD(x:aW×aW):L.aP ds gp:=⟨x.1,x.2⟩
variable{w w':World}{A:Option Addr}{l:List Val}
theorem bM.later(h:bM w A l)(hb:aj w w'):bM w' A l:=h.keep hb.size λ b cur hc=>hb.block b hc.lt
variable{α:Type}{f:α->List Value}{e:TypeId}{size base:Nat}{k:List Val}
theorem bM.own{v:Value} {l:List α}   (h:bM w A k)(ho:aH f e size w base v l)(he:44≠e)(hg:w.grownBy w' v.ownBlock):bM w' A k:=
 h.keep hg.size λ b cur hc=>hg.block b hc.lt λ e2=>ho.other hc he e2.symm
def S5 (ord:List (Tr×Bool))(LA:Option Addr)(dL:List (aW×aW))(lv:Value)(w:World)(e:Ending)(w':World):Prop:=
 e=.returned (.tuple #[])/\∃E:Nat->aW×aW,ajb w' LA dL.length E/\((List.range dL.length).map λ i=>Ng (E i)).map eG.row=(kZ (ord.map λ o=>o.2) (dL.map Ng)).map eG.row/\(∀i,i < dL.length->E i∈dL)/\w.grownBy w' lv.ownBlock
theorem TF:∀(l:List (aW×aW)) (i:Nat) x,l[i]?=some x->(l.flatMap eN)[i*2]?=some (.slice x.1.A x.1.l.length x.1.c)/\(l.flatMap eN)[i*2+1]?=some (.slice x.2.A x.2.l.length x.2.c)
 | [],i,x,h=>by simp at h
 | y::l,0,x,h=>by simp at h;subst h;exact⟨rfl,rfl⟩
 | y::l,i+1,x,h=>by
   have:=TF l i x Tah;rw[flatMap_cons];rw[getElem?_append_right (by simp[eN];omega),getElem?_append_right (by simp[eN];omega)];have e1:(i+1)*2 - (eN y).length=i*2:=by simp[eN];omega
   have e2:(i+1)*2+1 - (eN y).length=i*2+1:=by simp[eN];omega
   rw[e1,e2];exact this
theorem Re (gp:Nat)(ord:List (Tr×Bool))(oA:Option Addr)(on oc:Nat)(dL:List (aW×aW))(base:Nat)(LA:Option Addr)(lc:Nat)(w:World)(ug:dL.length<=1000)(hon:ord.length<=1599289640356)(sB:gp < w.heap.size)(Cj:w.cell? ⟨gp,6,none⟩=some (.slice oA on oc))(hgt:∃cs,aB w gp 81 cs)(hO:eO w (ord.map λ x=>(x.1,Value.bool x.2)) oA on)
  (hOt:∀b,base<=b->∀w',w.grownBy w' (some b)->eO w' (ord.map λ x=>(x.1,Value.bool x.2)) oA on)
  (XT:aH eN 91 2 w base (.slice LA dL.length lc) dL) (rO:∀x∈dL,bM w x.1.A x.1.l/\bM w x.2.A x.2.l/\x.1.l.length<=1000/\x.2.l.length=ord.length):
  ar 38 #[.slice LA dL.length lc,.func (.func 39) #[aw gp] #[]] w (S5 ord LA dL (.slice LA dL.length lc) w):=by
 by_cases h0:dL=[]
 ·subst h0;refine(L.Ah LA lc w).mono ?_;rintro e w' ⟨rfl,rfl⟩;exact⟨rfl,λ _=>(⟨none,[],0⟩,⟨none,[],0⟩),.inl rfl,rfl,λ i hi=>by simp at hi,⟨rfl,rfl,rfl,Nat.le_refl _,λ _ _ _=>rfl⟩⟩
 ·have hlen:0 < dL.length:=List.length_pos_iff.2 h0;obtain⟨Ia,h1 |⟨g,cap,cur,hv,hbg,hg,hlc,hm,hsz,lT⟩⟩:=XT
  ·omega
  ·injection hv with e1 _ e2;subst e1 e2;have hD0:∀i,i < dL.length->∃x,dL[i]?=some x:=λ i hi=>⟨_,getElem?_eq_getElem hi⟩
   let d0:aW×aW:=(⟨none,[],0⟩,⟨none,[],0⟩);let D:Nat->L.aP (ord.map λ o=>o.2) gp:=λ i=>toD (dL.getD i d0)
   have AU:∀i (hi:i < dL.length),dL.getD i d0=dL[i]:=λ i hi=>by rw[getD_eq_getElem?_getD,getElem?_eq_getElem hi];rfl
   have np:∀(j:Nat) v,(dL.flatMap eN)[j]?=some v->cur[j]?=some v:=λ j v hj=>by
    rw[<- Array.getElem?_toList];have:(cur.toList.take (dL.length*2))[j]?=some v:=by rw[lT];exact hj
    rw[getElem?_take] at this;split at this
    ·exact this
    ·cases this
   have hAt:L.At w g dL.length D:=by
    refine⟨cur,hg,?_,λ i hi=>?_⟩
    ·rw[hsz];exact Nat.mul_le_mul_right 2 hlc
    ·obtain⟨f1,f2⟩:=TF dL i dL[i] (getElem?_eq_getElem hi);refine⟨(np _ _ f1).trans ?_,(np _ _ f2).trans ?_⟩
     ·show _=some (Value.slice (dL.getD i d0).1.A (dL.getD i d0).1.l.length (dL.getD i d0).1.c);rw[AU i hi]
     ·show _=some (Value.slice (dL.getD i d0).2.A (dL.getD i d0).2.l.length (dL.getD i d0).2.c);rw[AU i hi]
   have hRN:∀r:aW,bM w r.A r.l->L.RN w g r:=λ r hr=>by
    rcases hr.rv with h |⟨b,off,e1,e2,e3⟩
    ·exact .inl h
    ·obtain⟨cs,hcs⟩:=hr.ty _ e1;exact .inr ⟨b,off,e1,e2,λ e=>by have:=kQ hcs hg WC;exact this e,e3⟩
   have ajc:∀k,k < dL.length->L.RN w g (D k).row/\L.RN w g (D k).keys/\(D k).row.l.length<=1000/\(D k).keys.l.length=(ord.map λ o=>o.2).length:=λ k hk=>by
    have hx:=rO dL[k] (getElem_mem hk);have e:D k=toD dL[k]:=by show toD (dL.getD k d0)=_;rw[AU k hk]
    rw[e];exact⟨hRN _ hx.1,hRN _ hx.2.1,hx.2.2.1,by rw[length_map];exact hx.2.2.2⟩
   have dZ:gp≠g:=by obtain⟨cs,hcs⟩:=hgt;exact kQ hcs hg WC
   have avD:L.agj (ord.map λ o=>o.2) gp w g:=λ x y W hW r1 r2 r3 r4 l1 l2 l3 l4=>by rw[length_map] at l3 l4;have hc:=MZ gp ord oA on oc ⟨x.row,x.keys⟩ ⟨y.row,y.keys⟩ W hon (Nat.lt_of_lt_of_le sB hW.size) ((bH (hW.block gp sB (λ e=>dZ Tbf)) 6).trans Cj) (hOt g hbg W hW) ⟨r1.rv hW,r2.rv hW,l3,l1⟩ ⟨r3.rv hW,r4.rv hW,l4,l2⟩;exact hc
   refine(L.Dv w g dL.length lc D w ⟨hAt,World.grownBy.refl w _,ajc,avD⟩ ug).mono ?_;rintro e w' ⟨rfl,E,hS,hSw,hSr⟩;refine⟨rfl,λ i=>((E i).row,(E i).keys),.inr ⟨g,rfl,Nat.lt_of_lt_of_le (show aB w g 91 cur from hg).lt hS.grown.size,λ i hi=>⟨hS.at_.cell i hi,hS.at_.dH i hi⟩⟩,?_,λ i hi=>?_,hS.grown⟩
   ·have hD:((List.range dL.length).map D).map (λ x:L.aP (ord.map λ o=>o.2) gp=>x.s)=dL.map Ng:=by
     rw[map_map];apply ext_getElem
     ·simp
     ·intro i i1 i2;have hi:i < dL.length:=by simpa using i2
      simp only[getElem_map,getElem_range];show(toD (ds:=ord.map λ o=>o.2) (gp:=gp) (dL.getD i d0)).s=Ng dL[i];rw[AU i hi];rfl
    have hE:((List.range dL.length).map λ i=>Ng ((E i).row,(E i).keys))=((List.range dL.length).map E).map (λ x:L.aP (ord.map λ o=>o.2) gp=>x.s):=by rw[map_map];rfl
    rw[hE];have hp:(((List.range dL.length).map E).map (λ x:L.aP (ord.map λ o=>o.2) gp=>x.s)).Perm (dL.map Ng):=by rw[<- hD];exact(hSw.perm (Nat.le_refl _)).map _
    unfold kZ;refine BL (mn _) eG.row (λ x y h=>CD h) _ _ (hp.trans (jI _ _).symm) ?_ (lu (mn _) _);rw[pairwise_map,pairwise_iff_getElem];intro i j hi hj nP;simp at hi hj;simp only[getElem_map,getElem_range];exact hSr i j Tq nP hj
   ·obtain⟨k',_,RZ,he⟩:=hSw.mem i (Nat.zero_le _) hi;show((E i).row,(E i).keys)∈dL;rw[he];show((toD (ds:=ord.map λ o=>o.2) (gp:=gp) (dL.getD k' d0)).row,(toD (ds:=ord.map λ o=>o.2) (gp:=gp) (dL.getD k' d0)).keys)∈dL;rw[AU k' RZ];exact getElem_mem RZ
theorem WH (u:World):(sizeOf (Tryz.prog.elem 85)).run Tryz.prog u=.ok 2 u:=by exact Zgu
theorem WI (A1:Option Addr)(n c1 k:Nat)(hk:k<=c1)(u:World):(Instr.slice 85 (.slice A1 n c1) none (some (af k)) none).run Tryz.prog u=.ok (.slice A1 k c1) u:=by rw[run_slice_h u 85 A1 n c1 Tryz.underlying85 .i64 k Tq Tq,WH];exact Zhf
theorem zcS.Kaw(h:p:=by
 clear L6 h hF ih q1 q2 q3 q4 q5 Az TG D9 hz ND Cj LT hOt;have hh:=λ(n:Nat) (uV:n<=1000) D T hT h6 h8 WG d w1 Q=>adM gp g6 n lc LA D HA hn hc T hT h6 h8 WG d w1 Q Tq
 simp only[ey,fA,Tryz.f11,Option.getD_some] at hh;have ajf:=aa hh;clear hh;simp only[ey,fA,Tryz.f11,Option.getD_some];refine wp_seq_k λ K hK=>?_
 have HK:=aa hK;clear hK;go_wp2_with fail;refine HSO.ae.mono ?_;rintro e w1 ⟨rfl,E,hE,hs,hm,hg⟩;have HE:=aa hE;have LE:=aa hs;have HM:=aa hm;have HG:=aa hg;clear hE hs hm hg HSO;go_wp2_with fail;refine HK.ae _ _ ?_;clear HK;have ajg:w1.cell? ⟨gp,12,none⟩=some (.slice HA hn hc):=by obtain⟨cs,hcs⟩:=Q1.ae;exact(bH (HG.ae.block gp HFN.ae λ e=>HF.ae.other hcs WC e.symm) 12).trans Q3.ae
 have hk7:w1.cell? ⟨g3,7,none⟩=some (.slice lA lim.length lc2):=by obtain⟨cs,hcs⟩:=Q5.ae;exact(bH (HG.ae.block g3 hcs.lt λ e=>HF.ae.other hcs WC e.symm) 7).trans Q4.ae
 have hb1:Below base w w1:=bj HF.ae HG.ae HJ.ae;have Rf:=aa (show aB w1 g6 33 #[az,az,af 0] from IH.ae.ky HF.ae WC HG.ae);have Iz:gp < w1.heap.size:=Nat.lt_of_lt_of_le HFN.ae HG.ae.size
 have hO:∀(n:Nat) (Um:n<=dL.length) (agn:((List.range n).map λ i=>Ng (E i)).map eG.row=((match lim with | []=>kZ (ord.map λ o:Tr×Bool=>o.2) (dL.map Ng)| n::_=>(kZ (ord.map λ o:Tr×Bool=>o.2) (dL.map Ng)).take n.toNat).map eG.row)) (a:Act) W ov,a.defers=d->a.tmps.getD 6 undef=aw g6->a.tmps.getD 7 undef=af 0->aB W g6 33 #[.slice HA hn hc,ov,af n]->aH bX 38 1 W w1.heap.size ov (rowsOf E n)->w1.grownBy W (some g6)->Q .ret a W:=by
  intro n Um agn a W ov e1 e2 e3 k6 oW gW;refine HS.ae a W ov (rowsOf E n) e1 e2 e3 (by rw[Dx];exact k6) (oW.down (Nat.le_trans HJ.ae HG.ae.size)) (λ r hr=>?_) ?_ ?_
  ·unfold rowsOf at hr;obtain⟨i,hi,rfl⟩:=List.mem_map.1 hr;have hi:i < n:=List.mem_range.1 hi;have hx:=GX.ae _ (HM.ae i Tq);exact(hx.1.own HF.ae WC HG.ae).keep gW.size λ b cur xZ=>gW.block b xZ.lt λ e=>by injection e with e;subst e;exact kQ xZ Rf.ae WC rfl
  ·rw[<- agn];unfold rowsOf;rw[map_map,map_map];rfl
  ·exact⟨w1,HG.ae,gW⟩
 have HO:=aa hO;clear hO;refine wp_seq_k λ K hK=>?_
 have HK:=aa hK;clear hK;rcases lim with _ |⟨n,_ |⟨n2,lim⟩⟩
 ·have mg:=HO.ae dL.length (Nat.le_refl _) LE.ae;clear HO;have Kx:=aa mg;clear mg;go_wp2_with fail;exact HK.ae _ _ (ajf.ae dL.length ug E _ rfl rfl rfl rfl d w1 Q Iz ajg Rf.ae HE.ae λ a W ov e1 e2 e3 k6 oW gW=>Kx.ae a W ov e1 e2 e3 k6 oW gW)
 ·obtain⟨n0,n1⟩:=G6.ae n Vb;obtain hl2 |⟨lb,lo,hA,Ed,bU⟩:=oC.ae
  ·cases hl2
  ·have hl0:=bU 0 n rfl;have D9:w1.cell? ⟨lb,lo,none⟩=some (af n):=by rw[Nat.add_zero] at hl0;refine(bH (HG.ae.block lb (Nat.lt_of_lt_of_le Ed HJ.ae) λ e=>?_) lo).trans hl0;have:=(HF.ae.lt e.symm).2.1;omega
   subst hA;obtain⟨k,hk⟩:∃k:Nat,n=k:=⟨n.toNat,by omega⟩;subst hk;have hs2:=WI LA dL.length lc (min dL.length k) Tq w1;have mg:=HO.ae (min dL.length k) (Nat.min_le_left _ _) (by
    have h1:=congrArg (List.take k) LE.ae
    rw[<- map_take,<- map_take,<- map_take,take_range] at h1
    rw[Nat.min_comm]
    exact h1)
   have mI:ajb w1 LA (min dL.length k) E:=by
    rcases HE.ae with h |⟨g,Lw,KK,Ly⟩
    ·exact .inl Tq
    ·exact .inr ⟨g,Lw,KK,λ i hi=>Ly i Tq⟩
   have Kx:=aa mg;have AL:=aa mI;clear mg mI HO hl0 Ed bU oC;by_cases hlt:k < dL.length
   ·have AW:min dL.length k=k:=by omega
    rw[AW] at hs2 Kx AL;have td:((k:Int)<(dL.length:Int)):=by omega
    go_wp2_with fail;have hmt:(min (dL.length:Int) (k:Int)).toNat=k:=by omega
    simp only[hmt];exact HK.ae _ _ (ajf.ae k Tq E _ rfl rfl rfl rfl d w1 Q Iz ajg Rf.ae AL.ae λ a W ov e1 e2 e3 k6 oW gW=>Kx.ae a W ov e1 e2 e3 k6 oW gW)
   ·have AW:min dL.length k=dL.length:=by omega
    rw[AW] at hs2 Kx AL;have td:¬((k:Int)<(dL.length:Int)):=by omega
    go_wp2_with fail;have hmt:(min (dL.length:Int) (k:Int)).toNat=dL.length:=by omega
    simp only[hmt];exact HK.ae _ _ (ajf.ae dL.length Tq E _ rfl rfl rfl rfl d w1 Q Iz ajg Rf.ae AL.ae λ a W ov e1 e2 e3 k6 oW gW=>Kx.ae a W ov e1 e2 e3 k6 oW gW)
 ·have:=Aa.ae;simp at this):p:=h
theorem S6 (gp g3 g6:Nat)(ord:List (Tr×Bool))(oA:Option Addr)(on oc:Nat)(lim:List Int)(lA:Option Addr)(lc2:Nat)(dL:List (aW×aW))(base:Nat)(LA:Option Addr)(lc:Nat)(HA:Option Addr)(hn hc:Nat)(T:Array Value)(hT:T.size=183)(h3:T.getD 3 undef=aw g3)(h6:T.getD 6 undef=aw g6)(h8:T.getD 8 undef=aw gp)(WG:T.getD 13 undef=.slice LA dL.length lc)(d:List Deferred)(w:World)(Q:Exit->Act->World->Prop)
  (ug:dL.length<=1000) (hon:ord.length<=1599289640356) (q2:gp < w.heap.size) (q3:w.cell? ⟨gp,12,none⟩=some (.slice HA hn hc)) (Cj:w.cell? ⟨gp,6,none⟩=some (.slice oA on oc)) (q1:∃cs,aB w gp 81 cs) (LT:eO w (ord.map λ x=>(x.1,Value.bool x.2)) oA on)
  (hOt:∀b,base<=b->∀w',w.grownBy w' (some b)->eO w' (ord.map λ x=>(x.1,Value.bool x.2)) oA on)
  (q4:w.cell? ⟨g3,7,none⟩=some (.slice lA lim.length lc2)) (q5:∃cs,aB w g3 27 cs) (Az:lim=[]\/∃b off,lA=some ⟨b,off,none⟩/\b < base/\∀i x,lim[i]?=some x->w.cell? ⟨b,off+i,none⟩=some (af x)) (TG:∀n∈lim,0<=n/\n<=9223372036854775807) (D9:lim.length<=1)
  (ih:aB w g6 33 #[az,az,af 0]) (hz:base<=w.heap.size)
  (hF:aH eN 91 2 w base (.slice LA dL.length lc) dL) (ND:∀x∈dL,bM w x.1.A x.1.l/\bM w x.2.A x.2.l/\x.1.l.length<=1000/\x.2.l.length=ord.length)
  (h:∀a W ov (out:List aW),a.defers=d->a.tmps.getD 6 undef=aw g6->a.tmps.getD 7 undef=af 0->aB W g6 33 #[.slice HA hn hc,ov,af out.length]->aH bX 38 1 W base ov out->(∀r∈out,bM W r.A r.l)->out.map (·.l)=((match lim with | []=>kZ (ord.map λ o:Tr×Bool=>o.2) (dL.map Ng)| n::_=>(kZ (ord.map λ o:Tr×Bool=>o.2) (dL.map Ng)).take n.toNat).map eG.row)->(∃wm,w.grownBy wm (Value.slice LA dL.length lc).ownBlock/\wm.grownBy W (some g6))->Q .ret a W):
  (fA ey 12).wp Tryz.prog Q { tmps:=T,defers:=d } w:=by
 obtain⟨f,rfl⟩:=yy T hT;have h3:f 3=_:=h3;have h6:f 6=_:=h6;have h8:f 8=_:=h8;have WG:f 13=_:=WG;simp only[XY,h3,h6,h8,WG];clear h3 h6 h8 WG;clear h3 h6 h8 WG hT;have L6:=Re gp ord oA on oc dL base LA lc w ug hon q2 Cj q1 LT hOt hF ND;have hle:dL.length<=lc:=by obtain⟨_,_,e,_,hl,_⟩:=hF.reads;injection e with _ _ e;rw[e];exact hl
 have HSO:=aa L6;have HS:=aa h;open zcS in exact Zbd
end Go.Proofs.YtndgjggokjickaaGreatDoor
