/- Parts of the proof. -/
import Derived.Test.YtndgjggokjickaaGreatDoorXG8
namespace Go.Proofs.YtndgjggokjickaaGreatDoor
variable{p:Prop}
set_option maxHeartbeats 90000000
set_option maxRecDepth 100000
open Go.ChangeShapes Go.WideShapes Go.ChangeAt Go.RowKit List
set_option linter.unusedVariables false
set_option linter.unusedSimpArgs false
theorem zfe.Kbh(h:p:=by obtain⟨y,sb⟩:=yb;dsimp only at*;have HS:=aa hS;have oM:=aa gS;clear hS gS;skip;exact Ze4):p:=h
theorem JH (gc:Nat)(A:z_)(c:Nat)(args:List (aX×Bool))(w:rQ)(hl:args.length<=1599289640356)(hA:RR w w.heap.size A (args.map (·.1)))(hE:∀a∈args,∀W,aj w W->ar 30 #[.slice a.1.A a.1.l.length a.1.c,aw gc] W λ e w'=>e=.returned (.bool a.2)/\aj W w'):
  ar 62 #[.slice A args.length c,.func (.func 30) #[] #[.pointer (some ⟨gc,0,none⟩)]] w λ e w'=>e=.returned (.int .i64 (gL (args.map (·.2))))/\aj w w':=by
 have HA:=aa hA;have HE:=aa hE;clear hA hE;go_enter Tryz.func62,Tryz.ntmps62;go_wp2_with fail;go_loopw [5,8] (λ _ i wr=>∃k:Nat,k<=args.length/\i=af k/\(∀j,j < k->(args.map (·.2)).getD j false=false)/\aj w wr) (λ _ i _=>args.length - (intOf i).toNat);case atStart=>exact Ze5
 case round=>
  obtain⟨k,hk,rfl,hp,hb⟩:=hrel;have HP:=aa hp;clear hp;by_cases hlt:k < args.length
  ·open zfe in exact Zdl
  ·exact Zdb
theorem Ar (gc:Nat)(A:z_)(c:Nat)(args:List (aX×Bool))(w:rQ)(hl:args.length<=1599289640356)(hA:RR w w.heap.size A (args.map (·.1)))(hE:∀a∈args,∀W,aj w W->ar 30 #[.slice a.1.A a.1.l.length a.1.c,aw gc] W λ e w'=>e=.returned (.bool a.2)/\aj W w'):
  ar 29 #[.slice A args.length c,.func (.func 30) #[] #[.pointer (some ⟨gc,0,none⟩)]] w λ e w'=>e=.returned (.bool ((args.map (·.2)).any id))/\aj w w':=by have hi:=JH gc A c args w hl hA hE;rw[vM];clear hA hE;go_enter Tryz.func29,Tryz.ntmps29;exact ZaX
theorem Nh (gc:Nat)(cols:List aV)(CA:z_)(cc:Nat)(r:aX)(w:rQ)(hgc:gc < w.heap.size)(hcc:w.cell? ⟨gc,0,none⟩=some (.slice CA cols.length cc))(cL:cols.length<=140737488355328)(lX:r.l.length<=140737488355328)(hC:RC w w.heap.size CA cols)(hV:RV w w.heap.size r.A r.l):
  ar 30 #[.slice r.A r.l.length r.c,aw gc] w λ e w'=>e=.returned (.bool (!iE cols r.l))/\aj w w':=by have h:=S7 cols CA cc r.l r.A r.c w cL lX hC hV;have HH:=aa h;clear h hC hV cL lX;go_enter Tryz.func30,Tryz.ntmps30;go_wp2_with fail;refine HH.ae.mono ?_;exact ZcP
theorem Ni (gc:Nat)(cols:List aV)(CA:z_)(cc:Nat)(rows:List aX)(A:z_)(c:Nat)(w:rQ)(hgc:gc < w.heap.size)(hcc:w.cell? ⟨gc,0,none⟩=some (.slice CA cols.length cc))(cL:cols.length<=140737488355328)(hn:rows.length<=1599289640356)(lX:∀r∈rows,r.l.length<=140737488355328)(hC:RC w w.heap.size CA cols)(hR:RR w w.heap.size A rows):
  ar 29 #[.slice A rows.length c,.func (.func 30) #[] #[.pointer (some ⟨gc,0,none⟩)]] w λ e w'=>e=.returned (.bool (rows.any λ r=> !iE cols r.l))/\aj w w':=by
 have h:=Ar gc A c (rows.map λ r=>(r,!iE cols r.l)) w (by simpa using hn) (by simpa [Function.comp_def] using hR) (λ a ha W hW=>by
  obtain⟨r,hr,rfl⟩:=List.mem_map.1 ha
  have uW:RV W W.heap.size r.A r.l:=by
   obtain⟨k,hk,he⟩:=getElem_of_mem hr
   obtain⟨b,off,_,_,_,h5⟩:=(hR.below hW).at_ hk
   rw[he] at h5
   exact h5.more hW.size
  exact Nh gc cols CA cc r W (Nat.lt_of_lt_of_le hgc hW.size) ((hW.cell (p:=⟨gc,0,none⟩) hgc).trans hcc) cL (lX r hr) (hC.later hW) uW)
 rw[length_map,map_map,any_map] at h;exact h
def c4V (g4 g5 k b1 o1 b2 o2:Nat)(ka kb:Value)(x y:Val):Nat->rQ->Value->Prop
 | 0,_,v=>v=bc g4 1
 | 1,_,v=>v=ka
 | 2,_,v=>v=af k
 | 3,_,v=>v=bc b1 (o1+k*3)
 | 4,_,v=>v=.agg (aJ x)
 | 5,_,v=>v=bc g5 1
 | 6,_,v=>v=kb
 | 7,_,v=>v=af k
 | 8,_,v=>v=bc b2 (o2+k*3)
 | 9,_,v=>v=.agg (aJ y)
 | 10,_,v=>v=af (bM x y)
 | 11,_,v=>v=af (bM x y)
 | _,_,_=>False
theorem WQ (g4 g5 k b1 o1 b2 o2:Nat)(ka kb:Value)(x y:Val):∀i w w' v,c4V g4 g5 k b1 o1 b2 o2 ka kb x y i w v->ai w w'->c4V g4 g5 k b1 o1 b2 o2 ka kb x y i w' v:=by
 intro i w w' v h hl
 match i with
 | 0 | 1 | 2 | 3 | 4 | 5 | 6 | 7 | 8 | 9 | 10 | 11=>exact h
 | n+12=>exact h
structure pU where
 row:aX
 keys:aX
def pU.v (l:pU):Value:=.agg #[.slice l.row.A l.row.l.length l.row.c,.slice l.keys.A l.keys.l.length l.keys.c]
def pU.s (l:pU):fg:=⟨l.row.l,l.keys.l⟩
structure pU.At (w:rQ) (l:pU) (n:Nat):Prop where
 row:RV w w.heap.size l.row.A l.row.l
 keys:RV w w.heap.size l.keys.A l.keys.l
 len:l.keys.l.length=n
 short:l.row.l.length<=1000
variable{w w':rQ}{l:pU}{n:Nat}
theorem pU.At.later(h:l.At w n)(hb:aj w w'):l.At w' n:=⟨h.row.later hb,h.keys.later hb,h.len,h.short⟩
variable{x y:Int}
theorem S8(h:x≠0):oB x y=x:=if_neg h
theorem GN:oB 0 y=y:=if_pos rfl
variable{d:Bool}{ds:List Bool}{a b:Val}{la lb:v_}
theorem Rm:vQ (d::ds) (a::la) (b::lb)=oB (ZN d a b) (vQ ds la lb):=rfl
theorem WR (x y z:Int):oB (oB x y) z=oB x (oB y z):=by
 unfold oB;repeat' split
 all_goals first | rfl |(exfalso;omega)| omega
theorem Nj (gp:Nat)(aF:List (Tr×Bool))(oA:z_)(on oc:Nat)(a b:pU)(w:rQ)(hS:aF.length<=1599289640356)(sy:gp < w.heap.size)(Cm:w.cell? ⟨gp,6,none⟩=some (.slice oA on oc))(hO:fE w (aF.map λ x=>(x.1,Value.bool x.2)) oA on)(nr:a.At w aF.length)(hb:b.At w aF.length):
  ar 39 #[aw gp,a.v,b.v] w λ e w'=>e=.returned (af (BR (aF.map λ x=>x.2) a.s b.s))/\aj w w':=by
 obtain⟨hn,ys,hys,a2,hy3⟩:=hO;rw[length_map] at hn;subst hn;have G3:ys.length=aF.length:=by have:=congrArg List.length a2;simpa using this
 have Ai:∀(k:Nat) (z:Ex×Value) (o:Tr×Bool),ys[k]?=some z->aF[k]?=some o->z.2=.bool o.2:=λ k z o hz ho=>by have h1:=congrArg (λ l=>l[k]?) a2;simp only[getElem?_map,hz,ho,Option.map_some] at h1;injection h1
 clear a2 hy3;obtain⟨⟨rA,rl,rc⟩,⟨kA,kl,kc⟩⟩:=a;obtain⟨⟨sA,sl,sc⟩,⟨jA,jl,jc⟩⟩:=b;obtain⟨rt,hrt⟩:∃rt,rt=BR (aF.map λ x=>x.2) (pU.s ⟨⟨rA,rl,rc⟩,⟨kA,kl,kc⟩⟩) (pU.s ⟨⟨sA,sl,sc⟩,⟨jA,jl,jc⟩⟩):=⟨_,rfl⟩;rw[<- hrt];have hw:=nr.len;have AL:=hb.len;dsimp only at hw AL;unfold pU.v;dsimp only;have aqw:rt=oB (vQ ((aF.map λ x=>x.2).drop 0) (kl.drop 0) (jl.drop 0)) (bR rl sl):=hrt;have Lz:=aa aqw;clear hrt aqw;have HS:=aa hS;have HO:=aa hw;have mr:=aa AL;have A1:=aa Ai;have A2:=aa G3;have b0:=ah w (.cells #[.slice rA rl.length rc,.slice kA kl.length kc] 91);have nj:=aB.new w 91 #[.slice rA rl.length rc,.slice kA kl.length kc];have b2:=ah (w.alloc (.cells #[.slice rA rl.length rc,.slice kA kl.length kc] 91)) (.cells #[.slice sA sl.length sc,.slice jA jl.length jc] 91);have HZ:=aB.new (w.alloc (.cells #[.slice rA rl.length rc,.slice kA kl.length kc] 91)) 91 #[.slice sA sl.length sc,.slice jA jl.length jc];replace nj:=nj.later b2;have bb:=ai.then b0 b2;rw[World.size_alloc] at HZ;have sQ:=aa (nr.later bb);have HBL:=aa (hb.later bb);have HY:=aa (hys.later bb);have HPO:=aa ((bb.cell (p:=⟨gp,6,none⟩) sy).trans Cm);have Kh:=aa (Nat.lt_of_lt_of_le sy bb.size);have HB:=aa bb;clear nr hb hys Cm sy bb b0 b2 hS hw AL Ai G3;go_enter Tryz.func39,Tryz.ntmps39;go_upto_region 1 with fail;generalize World.alloc (World.alloc w _) _=W at*;obtain⟨g4,hg4⟩:∃g4,g4=w.heap.size+1:=⟨_,rfl⟩;rw[<- hg4] at HZ ⊢;clear hg4;obtain⟨KK,Ly⟩:∃KK,KK=w.heap.size:=⟨_,rfl⟩;rw[<- Ly] at nj ⊢;clear Ly;have Cm:=HPO.ae;have aqx:=aa nj;have aqy:=aa HZ
 clear nj HZ;go_wp2_with fail;clear Cm;go_loopw [16] (λ i wr=>∃k:Nat,k<=aF.length/\i=af k/\rt=oB (vQ ((aF.map λ x=>x.2).drop k) (kl.drop k) (jl.drop k)) (bR rl sl)/\aj W wr) (λ i _=>aF.length - (intOf i).toNat);case atStart=>exact⟨0,Nat.zero_le _,rfl,Lz.ae,Below.refl _ _⟩
 case round=>
  clear Lz;obtain⟨k,hk,rfl,hp,hb⟩:=hrel;have HP:=aa hp;clear hp;by_cases hlt:k < aF.length
  ·have ajH:k < kl.length:=by have:=HO.ae;omega
   have ajI:k < jl.length:=by have:=mr.ae;omega
   have aqz:k < ys.length:=by have:=A2.ae;omega
   obtain⟨bo,oo,rfl,Cu,hex,hd⟩:=(HY.ae.below hb).at_ aqz;rw[A1.ae k _ _ (getElem?_eq_getElem aqz) (getElem?_eq_getElem hlt)] at hd;obtain⟨b2,o1,Kg,hb1,hx1⟩:=(sQ.ae.keys.below hb).at_ ajH;obtain⟨Kx,o2,vI,hb2,hx2⟩:=(HBL.ae.keys.below hb).at_ ajI;dsimp only at Kg vI;subst Kg vI;have IU:=aa (show(aF.map λ x=>x.2).drop k=aF[k].2::(aF.map λ x=>x.2).drop (k+1) by rw[drop_eq_getElem_cons Tan];simp);have Kj:=aa (show kl.drop k=kl[k]::kl.drop (k+1)from drop_eq_getElem_cons ajH);have HD3:=aa (show jl.drop k=jl[k]::jl.drop (k+1)from drop_eq_getElem_cons ajI);generalize aF[k].2=ds at*;generalize kl[k]=x at*;generalize jl[k]=y at*;generalize ys[k]=z at*;obtain⟨z1,z2⟩:=z;dsimp only at hex hd;unfold cg at hex;unfold dE at hx1 hx2;go_upto_region 4 with fail;have NV:=hx1;have hcy:=hx2;have HG:=aB.new wr 117 #[ag z1.op,ag z1.v.k,af z1.v.n,.string z1.v.s,.string z1.name,af z1.width,.slice z1.A z1.n z1.c,.bool ds];have bV:=ah wr (.cells #[ag z1.op,ag z1.v.k,af z1.v.n,.string z1.v.s,.string z1.name,af z1.width,.slice z1.A z1.n z1.c,.bool ds] 117);have nj:=(aqx.ae.later hb).later bV;have HZ:=(aqy.ae.later hb).later bV;have S9:b2 < wr.heap.size:=Nat.lt_of_lt_of_le hb1 hb.size;have T4:Kx < wr.heap.size:=Nat.lt_of_lt_of_le hb2 hb.size;have HX:=aa (And.intro (bV.cell (p:=⟨b2,o1+k*3,none⟩) S9 |>.trans NV.1) (And.intro (bV.cell (p:=⟨b2,o1+k*3+1,none⟩) S9 |>.trans NV.2.1) (bV.cell (p:=⟨b2,o1+k*3+2,none⟩) S9 |>.trans NV.2.2)));have HYY:=aa (And.intro (bV.cell (p:=⟨Kx,o2+k*3,none⟩) T4 |>.trans hcy.1) (And.intro (bV.cell (p:=⟨Kx,o2+k*3+1,none⟩) T4 |>.trans hcy.2.1) (bV.cell (p:=⟨Kx,o2+k*3+2,none⟩) T4 |>.trans hcy.2.2)))
   have eX:=aa (Nat.lt_of_lt_of_le S9 bV.size);have fY:=aa (Nat.lt_of_lt_of_le T4 bV.size);have hB:=ai.then hb bV;generalize wr.alloc _=W2 at*;obtain⟨g8,XZ⟩:∃g8,g8=wr.heap.size:=⟨_,rfl⟩;rw[<- XZ] at HG ⊢;clear XZ hx1 hx2 NV hcy hex hd bV S9 T4 hb;refine bz 12 (c4V KK g4 k b2 o1 Kx o2 (.slice (some ⟨b2,o1,none⟩) kl.length kc) (.slice (some ⟨Kx,o2,none⟩) jl.length jc) x y) (WQ _ _ _ _ _ _ _ _ _ _ _) WC WC WC ?_ ?_
   ·simp only[take_succ_cons,take_zero];refine⟨Zaa,?_,Zaa,?_,?_,Zaa,?_,Zaa,?_,?_,?_,Zaa,trivial⟩
    ·intro ρ w3 hc hL hr;have h0:_=_:=hr.1;have c0:=(nj.later hL).cell 1;exact ZaO
    ·intro ρ w3 hc hL hr;have h0:_=_:=hr.1;have h1:_=_:=hr.2.1;have sZ:(k:Int)<(kl.length:Int):=by omega
     exact aq (w':=w3) (by simp[go_sem,h0,h1,sZ,ajH,eB];done) ⟨ai.refl _,rfl⟩
    ·intro ρ w3 hc hL hr;have h0:_=_:=hr.1;have y0:=(hL.cell (p:=⟨b2,o1+k*3,none⟩) eX.ae).trans HX.ae.1;have y1:=(hL.cell (p:=⟨b2,o1+k*3+1,none⟩) eX.ae).trans HX.ae.2.1;have c2:=(hL.cell (p:=⟨b2,o1+k*3+2,none⟩) eX.ae).trans HX.ae.2.2;exact Zdg
    ·intro ρ w3 hc hL hr;have h0:_=_:=hr.1;have c0:=(HZ.later hL).cell 1;exact ZaO
    ·intro ρ w3 hc hL hr;have h0:_=_:=hr.1;have h1:_=_:=hr.2.1;have sZ:(k:Int)<(jl.length:Int):=by omega
     exact aq (w':=w3) (by simp[go_sem,h0,h1,sZ,ajI,eB];done) ⟨ai.refl _,rfl⟩
    ·intro ρ w3 hc hL hr;have h0:_=_:=hr.1;have y0:=(hL.cell (p:=⟨Kx,o2+k*3,none⟩) fY.ae).trans HYY.ae.1;have y1:=(hL.cell (p:=⟨Kx,o2+k*3+1,none⟩) fY.ae).trans HYY.ae.2.1;have c2:=(hL.cell (p:=⟨Kx,o2+k*3+2,none⟩) fY.ae).trans HYY.ae.2.2;exact Zdg
    ·intro ρ w3 hc hL hr;have h0:_=_:=hr.1;have h1:_=_:=hr.2.1;have e1:=hc.func 18;refine bp (f:=18) (args:= #[.agg (aJ x),.agg (aJ y)]) (w':=w3) Taq ?_;refine(ei x y w3).mono ?_;exact Zbd
   intro W3 hL;simp only[Uab];rintro a0 - a1 - Lw - a3 - a4 - a5 - a6 - a7 - a8 - a9 - FI - _ rfl;simp only[bA,Act.put,Uac];have hst:rt=oB (ZN ds x y) (oB (vQ ((aF.map λ x=>x.2).drop (k+1)) (kl.drop (k+1)) (jl.drop (k+1))) (bR rl sl)):=by rw[HP.ae,IU.ae,Kj.ae,HD3.ae,Rm,WR]
   have d7:=(HG.later hL).cell 7;simp only[Uaa] at d7;have hW:=ai.then hB hL;have hvb:=Im x y;have mE:ZN ds x y=if ds=true then -(bM x y)else bM x y:=rfl;rw[mE] at hst;clear mE HG nj HZ HX HYY eX fY hB hL HP IU Kj HD3;generalize bM x y=vv at*;obtain⟨v1,v2⟩:=hvb;by_cases h0:vv=0
   ·subst h0;have hS:=HS.ae;have HR:=aa (show rt=oB (vQ ((aF.map λ x=>x.2).drop (k+1)) (kl.drop (k+1)) (jl.drop (k+1))) (bR rl sl) by rw[hst];cases ds <;> exact GN);clear hst v1 v2;cases ds
    ·exact Zcv
    ·exact Zcv
   ·cases ds
    ·have hr:rt=vv:=by rw[hst];exact S8 (by simpa using h0)
     subst hr;have t1:(rt != 0)=true:=by simpa using h0
     have t2:decide (rt=0)=false:=by simpa using h0
     clear hst h0;go_wp2_with fail;go_ret;exact⟨rfl,ai.then HB.ae hW⟩
    ·have hr:rt= -vv:=by rw[hst];exact S8 Tab
     have t1:((-vv) != 0)=true:=by simp;omega
     have t2:decide ((-vv)=0)=false:=by simp;omega
     have HMX:=aa hr;clear hst h0 hr;exact ZgS
  ·have gw:k=aF.length:=by omega
   have hr:rt=bR rl sl:=by rw[HP.ae,drop_eq_nil_of_le (by rw[length_map];omega)];exact GN
   subst hr;have Kn:=(sQ.ae.later hb).row;have JI:=(HBL.ae.later hb).row;dsimp only at Kn JI;have l1:=(aqx.ae.later hb).cell 0;have l2:=(aqy.ae.later hb).cell 0;simp only[getElem?_toArray,getElem?_cons_zero] at l1 l2;have hrw:=BH rA rc rl sA sc sl wr Kn JI sQ.ae.short HBL.ae.short;have HH:=aa hrw;clear Kn JI hrw HP;go_wp2_with fail;refine HH.ae.mono ?_;rintro e w1 ⟨rfl,b1⟩;go_wp2_with fail;go_ret;exact⟨rfl,ai.then HB.ae (ai.then hb b1)⟩
end Go.Proofs.YtndgjggokjickaaGreatDoor
namespace Go.Proofs.YtndgjggokjickaaGreatDoor.L
variable{p:Prop}
set_option maxHeartbeats 90000000
set_option maxRecDepth 100000
open Go.ChangeShapes Go.WideShapes Go.ChangeAt Go.RowKit List
set_option linter.unusedVariables false
set_option linter.unusedSimpArgs false
structure aQ (ds:List Bool) (gp:Nat) where
 row:aX
 keys:aX
variable {ds:List Bool} {gp:Nat}
def aQ.rv (x:aQ ds gp):Value:=.slice x.row.A x.row.l.length x.row.c
def aQ.kv (x:aQ ds gp):Value:=.slice x.keys.A x.keys.l.length x.keys.c
def aQ.s (x:aQ ds gp):fg:=⟨x.row.l,x.keys.l⟩
def wS (x y:aQ ds gp):Int:=BR ds x.s y.s
theorem GQ (x y:aQ ds gp):wS y x= -(wS x y):=(pD ds).jd _ _
theorem WS (x:aQ ds gp):wS x x=0:=by have:=GQ x x;omega
theorem Rn (x y z:aQ ds gp)(h:wS x y<=0)(k:wS y z<=0):wS x z<=0:=(pD ds).trans _ _ _ h k
def RN (w:rQ)(g:Nat)(r:aX):Prop:=
 r.l=[]\/∃b off,r.A=some ⟨b,off,none⟩/\b < w.heap.size/\b≠g/\∀i x,r.l[i]?=some x->dE w b (off+i*3) x
variable{w w':rQ}{g:Nat}
theorem RN.rv{r:aX}(h:RN w g r)(hg:w.grownBy w' (some g)):RV w' w'.heap.size r.A r.l:=by
 rcases h with h |⟨b,off,h1,h2,h3,h4⟩
 ·exact .inl h
 ·refine .inr ⟨b,off,h1,Nat.lt_of_lt_of_le h2 hg.size,λ i x hx=>(h4 i x hx).keep λ o=>?_⟩;have hb:=hg.block b h2 (λ e=>h3 Tbj);unfold World.cell?;simp only[hb]
def At (w:rQ)(g n:Nat)(D:Nat->aQ ds gp):Prop:=∃cs,aB w g 91 cs/\n*2<=cs.size/\∀i,i < n->cs[i*2]?=some (D i).rv/\cs[i*2+1]?=some (D i).kv
variable{n:Nat}{D:Nat->aQ ds gp}
theorem At.cell(h:At w g n D)(i:Nat)(hi:i < n):w.cell? ⟨g,i*2,none⟩=some (.slice (D i).row.A (D i).row.l.length (D i).row.c):=by obtain⟨cs,hb,_,hc⟩:=h;rw[hb.cell,(hc i hi).1];rfl
theorem At.kK(h:At w g n D)(i:Nat)(hi:i < n):w.cell? ⟨g,i*2+1,none⟩=some (.slice (D i).keys.A (D i).keys.l.length (D i).keys.c):=by obtain⟨cs,hb,_,hc⟩:=h;rw[hb.cell,(hc i hi).2];rfl
theorem At.frozen(h:At w g n D)(i:Nat):w.frozen? ⟨g,i,none⟩=false:=by obtain⟨cs,hb,_,hc⟩:=h;exact hb.frozen i
theorem At.later(h:At w g n D)(hb:aj w w'):At w' g n D:=by obtain⟨cs,h1,h2,h3⟩:=h;exact⟨cs,h1.later hb,h2,h3⟩
def swp (D:Nat->aQ ds gp)(i j:Nat):Nat->aQ ds gp:=λ k=>if k=j then D i else if k=i then D j else D k
variable{cs:x_}{q:Nat}{u:Value}
theorem TQ{p:Nat} {v:Value}:(((cs.setIfInBounds (p*2) u).setIfInBounds (p*2+1) v))[q*2]?=(if q=p then(if p*2 < cs.size then some u else none)else cs[q*2]?)/\(((cs.setIfInBounds (p*2) u).setIfInBounds (p*2+1) v))[q*2+1]?=(if q=p then(if p*2+1 < cs.size then some v else none)else cs[q*2+1]?):=by
 rw[Array.getElem?_setIfInBounds,Array.getElem?_setIfInBounds,Array.getElem?_setIfInBounds,Array.getElem?_setIfInBounds];simp only[Array.size_setIfInBounds];constructor
 ·exact Zhj
 ·exact Zhj
theorem At.swap(h:At w g n D)(i j:Nat)(hi:i < n)(hj:j < n):At (((((w.setCell ⟨g,i*2,none⟩ (D j).rv).setCell ⟨g,i*2+1,none⟩ (D j).kv).setCell ⟨g,j*2,none⟩ (D i).rv).setCell ⟨g,j*2+1,none⟩ (D i).kv).drew) g n (swp D i j):=by
 obtain⟨cs,h1,h2,h3⟩:=h;refine⟨((((cs.setIfInBounds (i*2) (D j).rv).setIfInBounds (i*2+1) (D j).kv).setIfInBounds (j*2) (D i).rv).setIfInBounds (j*2+1) (D i).kv),((((h1.aT (i*2) _).aT (i*2+1) _).aT (j*2) _).aT (j*2+1) _).drew,by simpa using h2,λ k hk=>?_⟩;obtain⟨e0,e1⟩:=h3 k hk;unfold swp;obtain⟨a1,a2⟩:=TQ (cs:=(cs.setIfInBounds (i*2) (D j).rv).setIfInBounds (i*2+1) (D j).kv) (p:=j) (q:=k) (u:=(D i).rv) (v:=(D i).kv);obtain⟨b1,b2⟩:=TQ (cs:=cs) (p:=i) (q:=k) (u:=(D j).rv) (v:=(D j).kv);rw[a1,a2,b1,b2];simp only[Array.size_setIfInBounds];by_cases c1:k=j
 ·rw[if_pos c1,if_pos c1,if_pos c1,if_pos TD,if_pos TD];exact Ze7
 ·rw[if_neg c1,if_neg c1,if_neg c1];by_cases c2:k=i
  ·rw[if_pos c2,if_pos c2,if_pos c2,if_pos TD,if_pos TD];exact Ze7
  ·rw[if_neg c2,if_neg c2,if_neg c2];exact⟨e0,e1⟩
def agI (ds:List Bool)(gp:Nat)(w0:rQ)(g:Nat):Prop:=∀(x y:aQ ds gp) W,w0.grownBy W (some g)->RN w0 g x.row->RN w0 g x.keys->RN w0 g y.row->RN w0 g y.keys->x.row.l.length<=1000->y.row.l.length<=1000->x.keys.l.length=ds.length->y.keys.l.length=ds.length->
 ar 39 #[aw gp,.agg #[.slice x.row.A x.row.l.length x.row.c,.slice x.keys.A x.keys.l.length x.keys.c],.agg #[.slice y.row.A y.row.l.length y.row.c,.slice y.keys.A y.keys.l.length y.keys.c]] W λ e w'=>e=.returned (af (wS x y))/\aj W w'
structure SS (w0:rQ) (g n:Nat) (w:rQ) (D:Nat->aQ ds gp):Prop where
 at_:At w g n D
 grown:w0.grownBy w (some g)
 rows:∀k,k < n->RN w0 g (D k).row/\RN w0 g (D k).keys/\(D k).row.l.length<=1000/\(D k).keys.l.length=ds.length
 ord:agI ds gp w0 g
variable{w0:rQ}
theorem SS.later(h:SS w0 g n w D)(hb:aj w w'):SS w0 g n w' D:=⟨h.at_.later hb,aY h.grown (aO hb),h.rows,h.ord⟩
variable{W:rQ}
theorem SS.cmp(h:SS w0 g n w D)(i j:Nat)(hi:i < n)(hj:j < n)(hW:aj w W):
  ar 39 #[aw gp,.agg #[.slice (D i).row.A (D i).row.l.length (D i).row.c,.slice (D i).keys.A (D i).keys.l.length (D i).keys.c],.agg #[.slice (D j).row.A (D j).row.l.length (D j).row.c,.slice (D j).keys.A (D j).keys.l.length (D j).keys.c]] W λ e w'=>e=.returned (af (wS (D i) (D j)))/\aj W w':=
 h.ord _ _ W (aY h.grown (aO hW)) (h.rows i hi).1 (h.rows i hi).2.1 (h.rows j hj).1 (h.rows j hj).2.1 (h.rows i hi).2.2.1 (h.rows j hj).2.2.1 (h.rows i hi).2.2.2 (h.rows j hj).2.2.2
theorem SS.swap(h:SS w0 g n w D)(i j:Nat)(hi:i < n)(hj:j < n):SS w0 g n (((((w.setCell ⟨g,i*2,none⟩ (D j).rv).setCell ⟨g,i*2+1,none⟩ (D j).kv).setCell ⟨g,j*2,none⟩ (D i).rv).setCell ⟨g,j*2+1,none⟩ (D i).kv).drew) (swp D i j):=by
 refine⟨h.at_.swap i j hi hj,lR (aG (aG (aG (aG h.grown _ _) _ _) _ _) _ _),λ k hk=>?_,h.ord⟩;unfold swp;split
 ·exact h.rows i hi
 ·split
  ·exact h.rows j hj
  ·exact h.rows k hk
theorem SS.second(h:SS w0 g n w D)(i j:Nat)(hi:i < n)(hj:j < n)(x:aQ ds gp):(∃v,(w.setCell ⟨g,i*2,none⟩ x.rv).cell? ⟨g,i*2+1,none⟩=some v)/\(∃v,((w.setCell ⟨g,i*2,none⟩ x.rv).setCell ⟨g,i*2+1,none⟩ x.kv).cell? ⟨g,j*2,none⟩=some v)/\∃v,(((w.setCell ⟨g,i*2,none⟩ x.rv).setCell ⟨g,i*2+1,none⟩ x.kv).setCell ⟨g,j*2,none⟩ (D i).rv).cell? ⟨g,j*2+1,none⟩=some v:=by
 obtain⟨cs,h1,h2,h3⟩:=h.at_;have Ks:∀(cs:x_) k,k < cs.size->∃v,cs[k]?=some v:=λ cs k hk=>⟨_,Array.getElem?_eq_getElem hk⟩
 refine⟨?_,?_,?_⟩
 ·rw[(h1.aT _ _).cell];exact Ks _ _ Tab
 ·rw[((h1.aT _ _).aT _ _).cell];exact Ks _ _ Tab
 ·rw[(((h1.aT _ _).aT _ _).aT _ _).cell];exact Ks _ _ Tab
def jD (D:Nat->aQ ds gp)(a b c:Nat):Nat->aQ ds gp:=λ k=>if a<=k/\k < a+c then D (k - a+b)else if b<=k/\k < b+c then D (k - b+a)else D k
theorem Dv (D:Nat->aQ ds gp)(a b:Nat):jD D a b 0=D:=by funext k;unfold jD;rw[if_neg TD,if_neg TD]
theorem Dw (D:Nat->aQ ds gp)(a b i:Nat)(h:a+i < b):swp (jD D a b i) (a+i) (b+i)=jD D a b (i+1):=by funext k;unfold swp jD;exact Zdh
def BJ (w0:rQ)(g n:Nat)(D:Nat->aQ ds gp)(e:Ending)(w':rQ):Prop:=e=.returned (.tuple #[])/\SS w0 g n w' D
theorem nN (w0:rQ)(g n cap a b c:Nat)(D:Nat->aQ ds gp)(w:rQ)(h:SS w0 g n w D)(hn:n<=1000)(hab:a+c<=b)(hb:b+c<=n):
  ar 195 #[aL g n cap,af a,af b,af c,.func (.func 39) #[aw gp] #[]] w (BJ w0 g n (jD D a b c)):=by
 have HS:=aa h;clear h;have mixed:Tryz.prog.follows .mixedOrders=true:=by kernel_rfl
 go_enter Tryz.func195,Tryz.ntmps195;go_wp2_with fail;go_loopw [10] (λ iv wr=>∃i:Nat,i<=c/\iv=af i/\SS w0 g n wr (jD D a b i)) (λ iv _=>c - (intOf iv).toNat);case atStart=>exact⟨0,Nat.zero_le _,rfl,by rw[Dv];exact HS.ae⟩
 case round=>
  obtain⟨i,hi,rfl,hf⟩:=hrel;have H2:=aa hf;clear hf;by_cases hlt:i < c
  ·have c1:=H2.ae.at_.cell (a+i) TD;have JJ:=H2.ae.at_.kK (a+i) TD;have c2:=H2.ae.at_.cell (b+i) TD;have JK:=H2.ae.at_.kK (b+i) TD;have f1:=H2.ae.at_.frozen ((a+i)*2);have f1k:=H2.ae.at_.frozen ((a+i)*2+1);have f2:=H2.ae.at_.frozen ((b+i)*2);have f2k:=H2.ae.at_.frozen ((b+i)*2+1);obtain⟨⟨u1,c3⟩,⟨u2,c4⟩,⟨u3,c5⟩⟩:=H2.ae.second (a+i) (b+i) TD TD (jD D a b i (b+i));have S3:=aa (H2.ae.swap (a+i) (b+i) TD TD);simp only[aQ.rv,aQ.kv] at c3 c4 c5 S3;go_upto_region 3 with fail;go_big_region_o;clear c1 c2 JJ JK c3 c4 c5 f1 f2 f1k f2k;rw[Dw D a b i TD] at S3;generalize hW3:World.drew _=W3 at S3 ⊢;clear hW3;go_wp2_with fail;go_roundw;case rel=>exact⟨i+1,hlt,by go_num,S3.ae⟩
   case measure=>exact ZaU
  ·have GR:i=c:=by omega
   subst GR;go_wp2_with fail;exact bodyPost_ret (v:=.tuple #[]) (by simp[results,Tryz.results195,go_sem]) rfl ⟨rfl,H2.ae⟩
def fl (D:Nat->aQ ds gp)(s m e:Nat):Nat->aQ ds gp:=λ k=>if s<=k/\k < e then(if k < s+(e - m)then D (k+(m - s))else D (k - (e - m)))else D k
theorem Nk (D:Nat->aQ ds gp)(m i j:Nat)(hi:i<=m)(nA:j < i):fl (jD D (m - i) m j) (m - (i - j)) m (m+j)=fl D (m - i) m (m+j):=by funext k;unfold fl jD;exact Zdh
theorem Nl (D:Nat->aQ ds gp)(m i j:Nat)(hi:i<=m)(nA:i < j):fl (jD D (m - i) (m+j - i) i) (m - i) m (m+(j - i))=fl D (m - i) m (m+j):=by funext k;unfold fl jD;exact Zdh
theorem Nn (D:Nat->aQ ds gp)(m i:Nat)(hi:i<=m):jD D (m - i) m i=fl D (m - i) m (m+i):=by funext k;unfold fl jD;exact Zdh
theorem Ro (w0:rQ)(g n cap a m b:Nat)(D:Nat->aQ ds gp)(w:rQ)(h:SS w0 g n w D)(hn:n<=1000)(ham:a < m)(hmb:m < b)(hb:b<=n):
  ar 166 #[aL g n cap,af a,af m,af b,.func (.func 39) #[aw gp] #[]] w (BJ w0 g n (fl D a m b)):=by
 have HS:=aa h;clear h;go_enter Tryz.func166,Tryz.ntmps166;go_wp2_with fail;go_loopw [10,11] (λ iv jv wr=>∃(i j:Nat) (E:Nat->aQ ds gp),0 < i/\0 < j/\a+i<=m/\m+j<=b/\iv=af i/\jv=af j/\SS w0 g n wr E/\fl E (m - i) m (m+j)=fl D a m b) (λ iv jv _=>(intOf iv).toNat+(intOf jv).toNat);case atStart=>refine⟨m - a,b - m,D,by omega,by omega,by omega,by omega,by go_num,by go_num,HS.ae,?_⟩;rw[show m - (m - a)=a by omega,show m+(b - m)=b by omega]
 case round=>
  obtain⟨i,j,E,kL,hj0,hi,hj,rfl,rfl,hs,hr⟩:=hrel;have H2:=aa hs;have HR:=aa hr;clear hs hr;by_cases heq:i=j
  ·subst heq;have t1:((i:Int) !=(i:Int))=false:=by simp
   have z1:(m:Int) - (i:Int)=((m - i:Nat):Int):=by omega
   go_wp2_with fail;refine(nN w0 g n cap (m - i) m i E wr H2.ae hn TD TD).mono ?_;rintro e_ w1 ⟨rfl,hs⟩;rw[Nn E m i TD,HR.ae] at hs;have H3:=aa hs;clear hs H2 HR z1 t1;go_wp2_with fail;exact bodyPost_ret (v:=.tuple #[]) (by simp[results,Tryz.results166,go_sem]) rfl ⟨rfl,H3.ae⟩
  ·have t1:((i:Int) !=(j:Int))=true:=by simp;omega
   have z1:(m:Int) - (i:Int)=((m - i:Nat):Int):=by omega
   by_cases hlt:j < i
   ·have t2:decide ((j:Int)<(i:Int))=true:=by simp;omega
    go_wp2_with fail;refine(nN w0 g n cap (m - i) m j E wr H2.ae hn TD TD).mono ?_;rintro e_ w1 ⟨rfl,hs⟩;have H3:=aa hs;have HR3:=aa ((Nk E m i j TD hlt).trans HR.ae);clear hs H2 HR z1 t1;go_wp2_with fail;go_roundw;case rel=>exact⟨i - j,j,_,by omega,by omega,by omega,by omega,by go_num,rfl,H3.ae,HR3.ae⟩
    case measure=>exact ZaU
   ·have t2:decide ((j:Int)<(i:Int))=false:=by simp;omega
    have z2:(m:Int)+(j:Int) - (i:Int)=((m+j - i:Nat):Int):=by omega
    go_wp2_with fail;refine(nN w0 g n cap (m - i) (m+j - i) i E wr H2.ae hn TD TD).mono ?_;rintro e_ w1 ⟨rfl,hs⟩;have H3:=aa hs;have HR3:=aa ((Nl E m i j TD TD).trans HR.ae);clear hs H2 HR z1 t1 z2;go_wp2_with fail;go_roundw;case rel=>exact⟨i,j - i,_,by omega,by omega,by omega,by omega,rfl,by go_num,H3.ae,HR3.ae⟩
    case measure=>exact ZaU
def lt (x y:aQ ds gp):Prop:=wS x y < 0
def le (x y:aQ ds gp):Prop:=wS x y<=0
theorem le_refl (x:aQ ds gp):le x x:=by unfold le;rw[WS];omega
variable{x y z:aQ ds gp}
theorem le_trans(h:le x y)(k:le y z):le x z:=Rn _ _ _ h k
theorem le_of_lt(h:lt x y):le x y:=by unfold lt at h;unfold le;omega
theorem not_lt:¬lt x y↔le y x:=by unfold lt le;have:=GQ x y;omega
theorem zD(h:le x y)(k:lt y z):lt x z:=by
 refine Classical.byContradiction λ e=>?_
 have:=le_trans (not_lt.1 e) h;exact(not_lt.2 this) k
theorem zE(h:lt x y)(k:le y z):lt x z:=by
 refine Classical.byContradiction λ e=>?_
 have:=le_trans k (not_lt.1 e);exact(not_lt.2 this) h
def gV (D:Nat->aQ ds gp)(a b:Nat):Prop:=∀i j,a<=i->i < j->j < b->le (D i) (D j)
variable{a b a' b':Nat}
theorem gV.mono(h:gV D a b)(h1:a<=a')(h2:b'<=b):gV D a' b':=λ i j hi hj hb=>h i j TD hj TD
variable{E:Nat->aQ ds gp}
theorem gV.congr(h:gV D a b)(he:∀i,a<=i->i < b->E i=D i):gV E a b:=λ i j hi hj hb=>by rw[he i hi TD,he j TD hb];exact h i j hi hj hb
variable{i j:Nat}
theorem gV.le(h:gV D a b)(hi:a<=i)(nA:i<=j)(hj:j < b):le (D i) (D j):=by
 rcases Nat.lt_or_ge i j with h1 | h1
 ·exact h i j hi h1 hj
 ·rw[show i=j by omega];exact le_refl _
theorem gV.none(h:b<=a+1):gV D a b:=λ i j hi hj hb=>by omega
inductive Sw (a b:Nat) (D:Nat->aQ ds gp):(Nat->aQ ds gp)->Prop
 | refl:Sw a b D D
 | step {E:Nat->aQ ds gp} {i j:Nat}:Sw a b D E->a<=i->i < b->a<=j->j < b->Sw a b D (swp E i j)
variable{F:Nat->aQ ds gp}
theorem Sw.trans(h:Sw a b D E)(k:Sw a b E F):Sw a b D F:=by
 induction k with
 | refl=>exact h
 | step _ h1 h2 h3 h4 ih=>exact .step ih h1 h2 h3 h4
theorem Sw.mono(h:Sw a b D E)(h1:a'<=a)(h2:b<=b'):Sw a' b' D E:=by
 induction h with
 | refl=>exact .refl
 | step _ k1 k2 k3 k4 ih=>exact .step ih TD TD TD TD
theorem Sw.ae(h:Sw a b D E):∀k,k < a\/b<=k->E k=D k:=by
 induction h with
 | refl=>exact λ _ _=>rfl
 | step _ k1 k2 k3 k4 ih=>intro k hk;unfold swp;rw[if_neg TD,if_neg TD];exact ih k hk
theorem Sw.mem(h:Sw a b D E):∀k,a<=k->k < b->∃k',a<=k'/\k' < b/\E k=D k':=by
 induction h with
 | refl=>exact λ k h1 h2=>⟨k,h1,h2,rfl⟩
 | step _ k1 k2 k3 k4 ih=>
   intro k h1 h2;unfold swp;split
   ·exact ih _ k1 k2
   ·split
    ·exact ih _ k3 k4
    ·exact ih k h1 h2
theorem T5 (D:Nat->aQ ds gp)(n i j:Nat)(hi:i < n)(hj:j < n):((List.range n).map (swp D i j)).Perm ((List.range n).map D):=by
 have hp:=Array.swap_perm (xs:=((List.range n).map D).toArray) (i:=i) (j:=j) TaC Ta4
 have e:((List.range n).map (swp D i j)).toArray=((List.range n).map D).toArray.swap i j TaC Ta4:=by
  apply Array.ext
  ·simp
  ·intro k h1 h2;have hk:k < n:=by simpa using h1
   rw[Array.getElem_swap];simp only[getElem_toArray,getElem_map,getElem_range];unfold swp;exact Zex
 have:=e▸hp;exact Array.perm_iff_toList_perm.1 this
theorem Sw.perm(h:Sw a b D E)(hb:b<=n):((List.range n).map E).Perm ((List.range n).map D):=by
 induction h with
 | refl=>exact .refl _
 | step _ k1 k2 k3 k4 ih=>exact(T5 _ n _ _ TD TD).trans ih
theorem wT (D:Nat->aQ ds gp)(a b:Nat):∀c,a+c<=b->Sw a (b+c) D (jD D a b c)
 | 0,_=>by rw[Dv];exact .refl
 | c+1,h=>by rw[<- Dw D a b c TD];exact .step ((wT D a b c TD).mono (Nat.le_refl _) TD) TD TD TD TD
theorem ajL (D:Nat->aQ ds gp)(m:Nat):∀N i j,i+j<=N->0 < i->0 < j->i<=m->Sw (m - i) (m+j) D (fl D (m - i) m (m+j)):=by
 intro N
 induction N generalizing D with
 | zero=>intro i j h h0 h1;omega
 | succ N ih=>
   intro i j h h0 h1 Sh;rcases Nat.lt_trichotomy i j with h2 | h2 | h2
   ·have h3:=ih (jD D (m - i) (m+j - i) i) i (j - i) TD h0 TD Sh;rw[Nl D m i j Sh h2] at h3;exact((wT D (m - i) (m+j - i) i TD).mono (Nat.le_refl _) TD).trans (h3.mono (Nat.le_refl _) TD)
   ·subst h2;rw[<- Nn D m i Sh];exact wT D (m - i) m i TD
   ·have h3:=ih (jD D (m - i) m j) (i - j) j TD TD h1 TD;rw[Nk D m i j Sh h2] at h3;exact((wT D (m - i) m j TD).mono (Nat.le_refl _) TD).trans (h3.mono TD (Nat.le_refl _))
theorem adX (D:Nat->aQ ds gp)(s m e:Nat)(h1:s < m)(h2:m < e):Sw s e D (fl D s m e):=by have:=ajL D m (m - s+(e - m)) (m - s) (e - m) (Nat.le_refl _) TD TD TD;rwa [show m - (m - s)=s by omega,show m+(e - m)=e by omega] at this
theorem WT (D:Nat->aQ ds gp)(m e:Nat):fl D m m e=D:=by exact ZfX
theorem Rp (D:Nat->aQ ds gp)(s m:Nat):fl D s m m=D:=by exact ZfX
def Ins (E:Nat->aQ ds gp)(a i j:Nat):Prop:=(∀p q,a<=p->p < q->q<=i->p≠j->q≠j->le (E p) (E q))/\∀q,j < q->q<=i->le (E j) (E q)
theorem Ins.start(h:gV D a i):Ins D a i i:=⟨λ p q h1 h2 h3 h4 h5=>h p q h1 h2 TD,λ q h1 h2=>by omega⟩
theorem Ins.step(h:Ins E a i j)(hj:a < j)(XN:j<=i)(hl:lt (E j) (E (j - 1))):Ins (swp E j (j - 1)) a i (j - 1):=by
 constructor
 ·intro p q h1 h2 h3 h4 h5;unfold swp;rw[if_neg h4,if_neg h5];by_cases e1:p=j
  ·subst e1;rw[if_pos rfl,if_neg TD];exact h.1 (p - 1) q TD TD h3 TD TD
  ·rw[if_neg e1];by_cases e2:q=j
   ·subst e2;rw[if_pos rfl];exact h.1 p (q - 1) h1 TD TD e1 TD
   ·rw[if_neg e2];exact h.1 p q h1 h2 h3 e1 e2
 ·intro q h1 h2;unfold swp;rw[if_pos rfl,if_neg TD];by_cases e2:q=j
  ·subst e2;rw[if_pos rfl];exact le_of_lt hl
  ·rw[if_neg e2];exact h.2 q TD h2
theorem Ins.stop(h:Ins E a i j)(hj:a<=j)(hs:j=a\/¬lt (E j) (E (j - 1))):gV E a (i+1):=by
 intro p q h1 h2 h3;by_cases e1:p=j
 ·subst e1;exact h.2 q h2 TD
 ·by_cases e2:q=j
  ·subst e2;rcases hs with hs | hs
   ·omega
   ·have h4:=not_lt.1 hs;by_cases e3:p=q - 1
    ·rw[e3];exact h4
    ·exact le_trans (h.1 p (q - 1) h1 TD TD e1 TD) h4
  ·exact h.1 p q h1 h2 TD e1 e2
def zR (D:Nat->aQ ds gp)(a k:Nat):Nat->aQ ds gp:=λ x=>if a<=x/\x < k then D (x+1)else if x=k then D a else D x
theorem GU (D:Nat->aQ ds gp)(a:Nat):zR D a a=D:=by funext x;unfold zR;exact Zex
theorem GV (D:Nat->aQ ds gp)(a k:Nat)(h:a<=k):swp (zR D a k) k (k+1)=zR D a (k+1):=by funext x;unfold swp zR;exact ZfU
theorem TR (D:Nat->aQ ds gp)(a:Nat):∀d,Sw a (a+d+1) D (zR D a (a+d))
 | 0=>by show Sw a (a+0+1) D (zR D a a);rw[GU];exact .refl
 | d+1=>by rw[show a+(d+1)=a+d+1 by omega,<- GV D a (a+d) TD];exact .step ((TR D a d).mono (Nat.le_refl _) TD) TD TD TD TD
theorem T6(hs:gV D (a+1) b)(hi:a+1<=i)(hib:i<=b)(h1:∀h,a+1<=h->h < i->lt (D h) (D a))(h2:∀h,i<=h->h < b->¬lt (D h) (D a)):gV (zR D a (i - 1)) a b:=by
 intro p q hp hpq hq;unfold zR;by_cases c1:a<=p/\p < i - 1
 ·rw[if_pos c1];by_cases c2:a<=q/\q < i - 1
  ·rw[if_pos c2];exact hs (p+1) (q+1) TD TD TD
  ·rw[if_neg c2];by_cases c3:q=i - 1
   ·rw[if_pos c3];exact le_of_lt (h1 (p+1) TD TD)
   ·rw[if_neg c3];exact hs.le TD TD hq
 ·rw[if_neg c1];have c2:¬(a<=q/\q < i - 1):=by omega
  rw[if_neg c2];have c3:q≠i - 1:=by omega
  rw[if_neg c3];by_cases c4:p=i - 1
  ·rw[if_pos c4];exact not_lt.1 (h2 q TD hq)
  ·rw[if_neg c4];exact hs p q TD hpq hq
def BK (D:Nat->aQ ds gp)(k m:Nat):Nat->aQ ds gp:=λ x=>if x=k then D m else if k < x/\x<=m then D (x - 1)else D x
theorem GX (D:Nat->aQ ds gp)(m:Nat):BK D m m=D:=by funext x;unfold BK;exact Zex
theorem GY (D:Nat->aQ ds gp)(k m:Nat)(h0:0 < k)(h:k<=m):swp (BK D k m) k (k - 1)=BK D (k - 1) m:=by funext x;unfold swp BK;exact ZfU
theorem TS (D:Nat->aQ ds gp)(m:Nat):∀d,d<=m->Sw (m - d) (m+1) D (BK D (m - d) m)
 | 0,_=>by rw[Nat.sub_zero,GX];exact .refl
 | d+1,h=>by rw[show m - (d+1)=m - d - 1 by omega,<- GY D (m - d) m TD TD];exact .step ((TS D m d TD).mono TD (Nat.le_refl _)) TD TD TD TD
variable{m:Nat}
theorem T7(hs:gV D a m)(hi:a<=i)(Sh:i<=m)(h1:∀h,a<=h->h < i->¬lt (D m) (D h))(h2:∀h,i<=h->h < m->lt (D m) (D h)):gV (BK D i m) a (m+1):=by
 intro p q hp hpq hq;unfold BK;by_cases c1:p=i
 ·rw[if_pos c1,if_neg TD,if_pos TD];exact le_of_lt (h2 (q - 1) TD TD)
 ·rw[if_neg c1];by_cases c2:i < p/\p<=m
  ·rw[if_pos c2,if_neg TD,if_pos TD];exact hs.le TD TD TD
  ·rw[if_neg c2];by_cases c3:q=i
   ·rw[if_pos c3];exact not_lt.1 (h1 p hp TD)
   ·rw[if_neg c3];by_cases c4:i < q/\q<=m
    ·rw[if_pos c4];exact hs.le hp TD TD
    ·rw[if_neg c4];exact hs p q hp hpq TD
structure Found (D:Nat->aQ ds gp) (p s0 r0 s r:Nat):Prop where
 low:∀c,s0<=c->c < s->¬lt (D (p - c)) (D c)
 high:∀c,r<=c->c < r0->lt (D (p - c)) (D c)
structure tN (a m b mid s0 r0:Nat):Prop where
 ab:a < m/\m < b
 ahK:mid=(a+b)/ 2
 ends:(m > mid/\s0=mid+m - b/\r0=mid)\/(m<=mid/\s0=a/\r0=m)
variable{mid s0 r0 r c:Nat}
theorem Found.go{s:Nat}(he:tN a m b mid s0 r0)(h1:gV D a m)(h2:gV D m b)(h:Found D (mid+m - 1) s0 r0 s r)(hs:s0<=s)(hr:r<=r0)(hc:s<=c)(hc2:c < r):
  (¬lt (D (mid+m - 1 - c)) (D c)->Found D (mid+m - 1) s0 r0 (c+1) r)/\(lt (D (mid+m - 1 - c)) (D c)->Found D (mid+m - 1) s0 r0 s c):=by
 obtain⟨⟨e1,e2⟩,rfl,e3⟩:=he;constructor
 ·intro hn;refine⟨λ d hd Qw=>?_,h.high⟩;have a1:le (D d) (D c):=h1.le TD TD TD;have a2:le (D ((a+b)/ 2+m - 1 - c)) (D ((a+b)/ 2+m - 1 - d)):=h2.le TD TD TD;exact not_lt.2 (le_trans (le_trans a1 (not_lt.1 hn)) a2)
 ·intro hl;refine⟨h.low,λ d hd Qw=>?_⟩;have a1:le (D c) (D d):=h1.le TD TD TD;have a2:le (D ((a+b)/ 2+m - 1 - d)) (D ((a+b)/ 2+m - 1 - c)):=h2.le TD TD TD;exact zE (zD a2 hl) a1
theorem WU{s:Nat}(he:tN a m b mid s0 r0)(h1:gV D a m)(h2:gV D m b)(h:Found D (mid+m - 1) s0 r0 s s)(hs:s0<=s)(hr:s<=r0):
  gV (fl D s m (mid+m - s)) a s/\gV (fl D s m (mid+m - s)) s mid/\gV (fl D s m (mid+m - s)) mid (mid+m - s)/\gV (fl D s m (mid+m - s)) (mid+m - s) b/\
  ∀x y,a<=x->x < mid->mid<=y->y < b->le (fl D s m (mid+m - s) x) (fl D s m (mid+m - s) y):=by
 obtain⟨⟨e1,e2⟩,e0,e3⟩:=he;have b1:a<=s/\s<=m/\s<=mid:=by omega
 have b2:m<=mid+m - s/\mid+m - s<=b:=by omega
 obtain⟨f,hf⟩:∃f,f=mid+m - s:=⟨_,rfl⟩;rw[<- hf] at b2 ⊢;have r1:∀x,x < s->fl D s m f x=D x:=λ x hx=>by unfold fl;rw[if_neg TD]
 have r2:∀x,s<=x->x < mid->fl D s m f x=D (x+(m - s)):=λ x hx hx2=>by unfold fl;rw[if_pos TD,if_pos TD]
 have r3:∀x,mid<=x->x < f->fl D s m f x=D (x - (f - m)):=λ x hx hx2=>by unfold fl;rw[if_pos TD,if_neg TD]
 have r4:∀x,f<=x->fl D s m f x=D x:=λ x hx=>by unfold fl;rw[if_neg TD]
 refine⟨λ i j hi hj hb=>?_,λ i j hi hj hb=>?_,λ i j hi hj hb=>?_,λ i j hi hj hb=>?_,λ x y hx hx2 hy fI=>?_⟩
 ·rw[r1 i TD,r1 j hb];exact h1 i j hi hj TD
 ·rw[r2 i hi TD,r2 j TD hb];exact h2 _ _ TD TD TD
 ·rw[r3 i hi TD,r3 j TD hb];exact h1 _ _ TD TD TD
 ·rw[r4 i hi,r4 j TD];exact h2 _ _ TD hj hb
 ·by_cases c1:x < s
  ·rw[r1 x c1];by_cases c2:y < f
   ·rw[r3 y hy c2];exact h1.le hx TD TD
   ·rw[r4 y TD];have h3:=h.low (s - 1) TD TD;have h4:=not_lt.1 h3;rw[show mid+m - 1 - (s - 1)=f by omega] at h4;exact le_trans (h1.le hx (show x<=s - 1 by omega) TD) (le_trans h4 (h2.le TD TD fI))
  ·rw[r2 x TD hx2];by_cases c2:y < f
   ·rw[r3 y hy c2];have h3:=h.high s (Nat.le_refl _) TD;rw[show mid+m - 1 - s=f - 1 by omega] at h3;exact le_trans (h2.le TD (show x+(m - s)<=f - 1 by omega) TD) (le_trans (le_of_lt h3) (h1.le TD TD TD))
   ·rw[r4 y TD];exact h2.le TD TD fI
theorem adY(hm:a<=mid/\mid<=b)(h:∀x y,a<=x->x < mid->mid<=y->y < b->le (D x) (D y))(k1:Sw a mid D E)(k2:Sw mid b E F)(s1:gV E a mid)(s2:gV F mid b):gV F a b/\Sw a b D F:=by
 refine⟨λ i j hi hj hb=>?_,(k1.mono (Nat.le_refl _) hm.2).trans (k2.mono hm.1 (Nat.le_refl _))⟩;by_cases c1:j < mid
 ·rw[k2.ae i (.inl TD),k2.ae j (.inl c1)];exact s1 i j hi hj c1
 ·by_cases c2:mid<=i
  ·exact s2 i j c2 hj hb
  ·rw[k2.ae i (.inl TD)];obtain⟨i',h1,h2,h3⟩:=k1.mem i hi TD;obtain⟨j',h4,h5,h6⟩:=k2.mem j TD hb;rw[h3,h6,k1.ae j' (.inr h4)];exact h i' j' h1 h2 h4 h5
def fX (w0:rQ)(g n a b:Nat)(D:Nat->aQ ds gp)(e:Ending)(w':rQ):Prop:=e=.returned (.tuple #[])/\∃E,SS w0 g n w' E/\Sw a b D E/\gV E a b
theorem zaA.Kac(h:p:=by
 have c1:=H3.ae.at_.cell (jp+1) TD;have JJ:=H3.ae.at_.kK (jp+1) TD;have c2:=H3.ae.at_.cell jp TD;have JK:=H3.ae.at_.kK jp TD;have f1:=H3.ae.at_.frozen ((jp+1)*2);have f1k:=H3.ae.at_.frozen ((jp+1)*2+1);have f2:=H3.ae.at_.frozen (jp*2);have f2k:=H3.ae.at_.frozen (jp*2+1);obtain⟨⟨u1,c3⟩,⟨u2,c4⟩,⟨u3,c5⟩⟩:=H3.ae.second (jp+1) jp TD TD (E jp);have S3:=aa (H3.ae.swap (jp+1) jp TD TD);simp only[aQ.rv,aQ.kv] at c3 c4 c5 S3;go_upto_region 6 with fail;go_big_region_o;clear c1 c2 JJ JK c3 c4 c5 f1 f2 f1k f2k;generalize hW3:World.drew _=W3 at S3 ⊢;clear hW3;have SI:=aa (HL3.ae.step hja hj (by simpa using HL.ae));have SW:=aa (Sw.step (i:=jp+1) (j:=jp) HW.ae TD TD TD TD);clear HL3 HW HL;go_wp2_with fail;go_roundw;case rel=>exact⟨jp,_,by omega,by omega,by go_num,S3.ae,SW.ae,SI.ae⟩
 case measure=>simp[intOf]):p:=h
theorem zaB.Kac(h:p:=by have SO:=aa (HL3.ae.stop hj0 (.inr (by simpa using HL.ae)));exact ZeN):p:=h
theorem zdt.KaI(h:p:=by clear fI y2;have H3:=aa (H2.ae.later hL);clear H2 hL;exact ZeN):p:=h
theorem tR (w0:rQ)(g n cap a b:Nat)(D:Nat->aQ ds gp)(w:rQ)(h:SS w0 g n w D)(hn:n<=1000)(hab:a<=b)(hb:b<=n):
  ar 105 #[aL g n cap,af a,af b,.func (.func 39) #[aw gp] #[]] w (fX w0 g n a b D):=by
 have HS:=aa h;have mixed:Tryz.prog.follows .mixedOrders=true:=by kernel_rfl
 clear h;go_enter Tryz.func105,Tryz.ntmps105;go_wp2_with fail;go_loopw [8] (λ iv wr=>∃(i:Nat) (Kx:Nat->aQ ds gp),a < i/\(i<=b\/i=a+1)/\iv=af i/\SS w0 g n wr Kx/\Sw a b D Kx/\gV Kx a i) (λ iv _=>b - (intOf iv).toNat);case atStart=>exact⟨a+1,D,by omega,.inr rfl,by go_num,HS.ae,.refl,.none TD⟩
 case round=>
  clear HS;obtain⟨i,Kx,kL,hi,rfl,hS,hw,AL⟩:=hrel;have H2:=aa hS;have HW:=aa hw;have HL3:=aa AL;clear hS hw AL;by_cases hlt:i < b
  ·go_wp2_with fail;go_loopw [9] (λ jv wr2=>∃(j:Nat) (E:Nat->aQ ds gp),a<=j/\j<=i/\jv=af j/\SS w0 g n wr2 E/\Sw a b D E/\Ins E a i j) (λ jv _=>(intOf jv).toNat);case atStart=>exact⟨i,Kx,by omega,Nat.le_refl _,rfl,H2.ae,HW.ae,.start HL3.ae⟩
   case round=>
    clear H2 HW HL3;obtain⟨j,E,hj0,hj,rfl,hS,hw,AL⟩:=hrel;have H2:=aa hS;have HW:=aa hw;have HL3:=aa AL;clear hS hw AL;by_cases hja:a < j
    ·obtain⟨jp,rfl⟩:∃q,j=q+1:=⟨j - 1,by omega⟩;have t1:decide ((a:Int)<(jp:Int)+1)=true:=decide_eq_true TD;have t1':decide ((a:Int)<((jp+1:Nat):Int))=true:=decide_eq_true TD;go_upto_region 4 with fail;have c1:=λ q:Ext wr.heap.size wr=>(H2.ae.at_.later q.h).cell (jp+1) TD
     have JJ:=λ q:Ext wr.heap.size wr=>(H2.ae.at_.later q.h).kK (jp+1) TD
     have c2:=λ q:Ext wr.heap.size wr=>(H2.ae.at_.later q.h).cell jp TD
     have JK:=λ q:Ext wr.heap.size wr=>(H2.ae.at_.later q.h).kK jp TD
     have hc:=λ q:Ext wr.heap.size wr=>H2.ae.cmp (jp+1) jp TD TD q.h
     by_cases hl:wS (E (jp+1)) (E jp)< 0
     ·have t2:=decide_eq_true hl;have HL:=aa (show lt (E (jp+1)) (E jp)from hl);clear hl;refine aW 17 wr.heap.size wr (Below.refl _ _) WC WC WC WC ?_;open zaA in exact Zai
     ·have t2:=decide_eq_false hl;have HL:=aa (show¬lt (E (jp+1)) (E jp)from hl);clear hl;refine aW 17 wr.heap.size wr (Below.refl _ _) WC WC WC WC ?_;open zaB in exact Zai
    ·have t1:decide ((a:Int)<(j:Int))=false:=decide_eq_false TD;have SO:=aa (HL3.ae.stop hj0 (.inl TD));go_upto_region 4 with fail;refine aW 17 wr.heap.size wr (Below.refl _ _) WC WC WC WC ?_;simp only[List.append,Uab];open zdt in exact ZbD
  ·have HE:=aa (HL3.ae.mono (Nat.le_refl a) (show b<=i by omega));go_wp2_with fail;exact bodyPost_ret (v:=.tuple #[]) Tbl rfl ⟨rfl,Kx,H2.ae,HW.ae,HE.ae⟩
theorem zaC.Kac(h:p:=by have yG:=aa (show∀h,a+1<=h->h < jp+1->lt (D h) (D a)from λ h h1 h2=>zD (HQ.ae.le h1 (show h<=jp by omega) TD) HX.ae);exact ZdW):p:=h
theorem zaD.Kac(h:p:=by have HH2:=aa (show∀h,jp<=h->h < b->¬lt (D h) (D a)from λ h h1 h2=>not_lt.2 (le_trans (not_lt.1 HX.ae) (HQ.ae.le TD h1 h2)));exact Zeq):p:=h
theorem zeh.KaV(h:p:=by
 have c1:=λ q:Ext wr.heap.size wr=>(H2.ae.at_.later q.h).cell (jp) TD
 have JJ:=λ q:Ext wr.heap.size wr=>(H2.ae.at_.later q.h).kK (jp) TD
 have c2:=λ q:Ext wr.heap.size wr=>(H2.ae.at_.later q.h).cell (a) TD
 have JK:=λ q:Ext wr.heap.size wr=>(H2.ae.at_.later q.h).kK (a) TD
 have hc:=λ q:Ext wr.heap.size wr=>H2.ae.cmp (jp) (a) TD TD q.h
 by_cases hl:wS (D (jp)) (D (a))< 0
 ·have t2:=decide_eq_true hl;have HX:=aa (show lt (D (jp)) (D (a))from hl);clear hl;refine aW 11 wr.heap.size wr (Below.refl _ _) WC WC WC WC ?_;open zaC in exact Zai
 ·have t2:=decide_eq_false hl;have HX:=aa (show¬lt (D (jp)) (D (a))from hl);clear hl;refine aW 11 wr.heap.size wr (Below.refl _ _) WC WC WC WC ?_;open zaD in exact Zai):p:=h
theorem adZ (w0:rQ)(g n cap a b:Nat)(D:Nat->aQ ds gp)(w:rQ)(h:SS w0 g n w D)(hn:n<=1000)(hab:a+1 < b)(hb:b<=n)(hQ:gV D (a+1) b):
  ar 106 #[aL g n cap,af a,af (a+1),af b,.func (.func 39) #[aw gp] #[]] w (fX w0 g n a b D):=by
 have HS:=aa h;have HQ:=aa hQ;have mixed:Tryz.prog.follows .mixedOrders=true:=by kernel_rfl
 clear h hQ;have t1:((a:Int)+1 - (a:Int)==1)=true:=by simp;omega
 go_enter Tryz.func106,Tryz.ntmps106;go_wp2_with fail;clear t1;go_loopw [10,11] (λ iv jv wr=>∃i j:Nat,a+1<=i/\i<=j/\j<=b/\iv=af i/\jv=af j/\SS w0 g n wr D/\(∀h,a+1<=h->h < i->lt (D h) (D a))/\∀h,j<=h->h < b->¬lt (D h) (D a)) (λ iv jv _=>(intOf jv).toNat - (intOf iv).toNat);case atStart=>exact⟨a+1,b,by omega,by omega,by omega,by go_num,rfl,HS.ae,λ h h1 h2=>by omega,λ h h1 h2=>by omega⟩
 case round=>
  clear HS;obtain⟨i,j,hi,nA,hj,rfl,rfl,hs,hl,hh⟩:=hrel;have H2:=aa hs;have HL:=aa hl;have HH:=aa hh;clear hs hl hh;by_cases hlt:i < j
  ·go_upto_region 5 with fail;open zeh in exact Zcg
  ·have J5:j=i:=by omega
   subst J5;have HF:=aa (T6 HQ.ae hi hj HL.ae HH.ae);have HW:=aa ((TR D a (j - 1 - a)).mono (Nat.le_refl _) (show a+(j - 1 - a)+1<=b by omega));rw[show a+(j - 1 - a)=j - 1 by omega] at HW;clear HL HH HQ hlt nA;have zj:(j:Int) - 1=((j - 1:Nat):Int):=by omega
   go_wp2_with fail;go_loopw [13] (λ kv wr2=>∃k:Nat,a<=k/\k<=j - 1/\kv=af k/\SS w0 g n wr2 (zR D a k)) (λ kv _=>j - (intOf kv).toNat);case atStart=>exact⟨a,Nat.le_refl _,by omega,rfl,by rw[GU];exact H2.ae⟩
   case round=>
    clear H2;obtain⟨k,Zg,hk,rfl,hs⟩:=hrel;have H2:=aa hs;clear hs;by_cases hlt:k < j - 1
    ·have t2:decide ((k:Int)<((j - 1:Nat):Int))=true:=decide_eq_true TD;have c1:=H2.ae.at_.cell (k) TD;have JJ:=H2.ae.at_.kK (k) TD;have c2:=H2.ae.at_.cell (k+1) TD;have JK:=H2.ae.at_.kK (k+1) TD;have f1:=H2.ae.at_.frozen ((k)*2);have f1k:=H2.ae.at_.frozen ((k)*2+1);have f2:=H2.ae.at_.frozen ((k+1)*2);have f2k:=H2.ae.at_.frozen ((k+1)*2+1);obtain⟨⟨u1,c3⟩,⟨u2,c4⟩,⟨u3,c5⟩⟩:=H2.ae.second (k) (k+1) TD TD (zR D a k (k+1));have S3:=aa (H2.ae.swap (k) (k+1) TD TD);simp only[aQ.rv,aQ.kv] at c3 c4 c5 S3;go_upto_region 11 with fail;go_big_region_o;clear c1 c2 JJ JK c3 c4 c5 f1 f2 f1k f2k;rw[GV D a k Zg] at S3;generalize hW3:World.drew _=W3 at S3 ⊢;clear hW3;go_wp2_with fail;go_roundw;case rel=>exact⟨k+1,by omega,by omega,by go_num,S3.ae⟩
     case measure=>first |(simp[intOf];done)|(simp[intOf];omega)
    ·have t2:decide ((k:Int)<((j - 1:Nat):Int))=false:=decide_eq_false TD;have GR:k=j - 1:=by omega
     exact ZeA
theorem zaE.Kac(h:p:=by have HH2:=aa (show∀h,jp<=h->h < m->lt (D m) (D h)from λ h h1 h2=>zE HX.ae (HQ.ae.le TD h1 h2));exact Zeq):p:=h
theorem zaF.Kac(h:p:=by have yG:=aa (show∀h,a<=h->h < jp+1->¬lt (D m) (D h)from λ h h1 h2=>not_lt.2 (le_trans (HQ.ae.le h1 (show h<=jp by omega) TD) (not_lt.1 HX.ae)));exact ZdW):p:=h
theorem zei.KaV(h:p:=by
 have c1:=λ q:Ext wr.heap.size wr=>(H2.ae.at_.later q.h).cell (m) TD
 have JJ:=λ q:Ext wr.heap.size wr=>(H2.ae.at_.later q.h).kK (m) TD
 have c2:=λ q:Ext wr.heap.size wr=>(H2.ae.at_.later q.h).cell (jp) TD
 have JK:=λ q:Ext wr.heap.size wr=>(H2.ae.at_.later q.h).kK (jp) TD
 have hc:=λ q:Ext wr.heap.size wr=>H2.ae.cmp (m) (jp) TD TD q.h
 by_cases hl:wS (D (m)) (D (jp))< 0
 ·have t2:=decide_eq_true hl;have HX:=aa (show lt (D (m)) (D (jp))from hl);clear hl;refine aW 12 wr.heap.size wr (Below.refl _ _) WC WC WC WC ?_;open zaE in exact Zai
 ·have t2:=decide_eq_false hl;have HX:=aa (show¬lt (D (m)) (D (jp))from hl);clear hl;refine aW 12 wr.heap.size wr (Below.refl _ _) WC WC WC WC ?_;open zaF in exact Zai):p:=h
theorem aea (w0:rQ)(g n cap a m:Nat)(D:Nat->aQ ds gp)(w:rQ)(h:SS w0 g n w D)(hn:n<=1000)(hab:a+1 < m)(hb:m+1<=n)(hQ:gV D a m):
  ar 106 #[aL g n cap,af a,af m,af (m+1),.func (.func 39) #[aw gp] #[]] w (fX w0 g n a (m+1) D):=by
 have HS:=aa h;have HQ:=aa hQ;have mixed:Tryz.prog.follows .mixedOrders=true:=by kernel_rfl
 clear h hQ;have t0:((m:Int) - (a:Int)==1)=false:=by simp;omega
 have t1:((m:Int)+1 - (m:Int)==1)=true:=by simp;omega
 go_enter Tryz.func106,Tryz.ntmps106;go_wp2_with fail;clear t0 t1;go_loopw [14,15] (λ iv jv wr=>∃i j:Nat,a<=i/\i<=j/\j<=m/\iv=af i/\jv=af j/\SS w0 g n wr D/\(∀h,a<=h->h < i->¬lt (D m) (D h))/\∀h,j<=h->h < m->lt (D m) (D h)) (λ iv jv _=>(intOf jv).toNat - (intOf iv).toNat);case atStart=>exact⟨a,m,by omega,by omega,by omega,rfl,rfl,HS.ae,λ h h1 h2=>by omega,λ h h1 h2=>by omega⟩
 case round=>
  clear HS;obtain⟨i,j,hi,nA,hj,rfl,rfl,hs,hl,hh⟩:=hrel;have H2:=aa hs;have HL:=aa hl;have HH:=aa hh;clear hs hl hh;by_cases hlt:i < j
  ·go_upto_region 17 with fail;open zei in exact Zcg
  ·have J5:j=i:=by omega
   subst J5;have HF:=aa (T7 HQ.ae hi hj HL.ae HH.ae);have HW:=aa ((TS D m (m - j) TD).mono (show a<=m - (m - j) by omega) (Nat.le_refl _));rw[show m - (m - j)=j by omega] at HW;clear HL HH HQ hlt nA;go_wp2_with fail;go_loopw [17] (λ kv wr2=>∃k:Nat,j<=k/\k<=m/\kv=af k/\SS w0 g n wr2 (BK D k m)) (λ kv _=>(intOf kv).toNat);case atStart=>exact⟨m,by omega,by omega,rfl,by rw[GX];exact H2.ae⟩
   case round=>
    clear H2;obtain⟨k,Zg,hk,rfl,hs⟩:=hrel;have H2:=aa hs;clear hs;by_cases hlt:j < k
    ·obtain⟨kp,rfl⟩:∃q,k=q+1:=⟨k - 1,by omega⟩;have t2:decide ((j:Int)<(kp:Int)+1)=true:=decide_eq_true TD;have t2':decide ((j:Int)<((kp+1:Nat):Int))=true:=decide_eq_true TD;have c1:=H2.ae.at_.cell (kp+1) TD;have JJ:=H2.ae.at_.kK (kp+1) TD;have c2:=H2.ae.at_.cell (kp) TD;have JK:=H2.ae.at_.kK (kp) TD;have f1:=H2.ae.at_.frozen ((kp+1)*2);have f1k:=H2.ae.at_.frozen ((kp+1)*2+1);have f2:=H2.ae.at_.frozen ((kp)*2);have f2k:=H2.ae.at_.frozen ((kp)*2+1);obtain⟨⟨u1,c3⟩,⟨u2,c4⟩,⟨u3,c5⟩⟩:=H2.ae.second (kp+1) (kp) TD TD (BK D (kp+1) m (kp));have S3:=aa (H2.ae.swap (kp+1) (kp) TD TD);simp only[aQ.rv,aQ.kv] at c3 c4 c5 S3;go_upto_region 23 with fail;go_big_region_o;clear c1 c2 JJ JK c3 c4 c5 f1 f2 f1k f2k;have e9:=GY D (kp+1) m TD hk;rw[show kp+1 - 1=kp by omega] at e9;rw[e9] at S3;generalize hW3:World.drew _=W3 at S3 ⊢;clear hW3;go_wp2_with fail;go_roundw;case rel=>exact⟨kp,by omega,by omega,by go_num,S3.ae⟩
     case measure=>first |(simp[intOf];done)|(simp[intOf];omega)
    ·have t2:decide ((j:Int)<(k:Int))=false:=decide_eq_false TD;have GR:k=j:=by omega
     exact ZeA
theorem Found.goP{s p:Nat}(hp:p=mid+m - 1)(he:tN a m b mid s0 r0)(h1:gV D a m)(h2:gV D m b)(h:Found D p s0 r0 s r)(hs:s0<=s)(hr:r<=r0)(hc:s<=c)(hc2:c < r):
  (¬lt (D (p - c)) (D c)->Found D p s0 r0 (c+1) r)/\(lt (D (p - c)) (D c)->Found D p s0 r0 s c):=by subst hp;exact Found.go he h1 h2 h hs hr hc hc2
variable{f:Nat}
theorem Rq{s p:Nat}(hp:p=mid+m - 1)(hf:f=mid+m - s)(he:tN a m b mid s0 r0)(h1:gV D a m)(h2:gV D m b)(h:Found D p s0 r0 s s)(hs:s0<=s)(hr:s<=r0):
  gV (fl D s m f) a s/\gV (fl D s m f) s mid/\gV (fl D s m f) mid f/\gV (fl D s m f) f b/\
  ∀x y,a<=x->x < mid->mid<=y->y < b->le (fl D s m f x) (fl D s m f y):=by subst hp hf;exact WU he h1 h2 h hs hr
noncomputable def syB:Code:=Tryz.f106.body.getD .skip
structure SyT (vc:Value) (T:x_) (g n cap a m b mid:Nat) (vn vs vf:Value):Prop where
 sz:T.size=220
 t0:T.getD 0 undef=aL g n cap
 t1:T.getD 1 undef=af a
 t2:T.getD 2 undef=af m
 t3:T.getD 3 undef=af b
 t4:T.getD 4 undef=vc
 t18:T.getD 18 undef=af mid
 t19:T.getD 19 undef=vn
 t20:T.getD 20 undef=vs
 t24:T.getD 24 undef=vf
def SyI (w0:rQ)(g n cap a b:Nat)(D:Nat->aQ ds gp):Prop:=b<=n/\n<=1000/\∀a' m' b' (E:Nat->aQ ds gp) W,a' < m'->m' < b'->b'<=n->b' - a' < b - a->SS w0 g n W E->gV E a' m'->gV E m' b'->ar 106 #[aL g n cap,af (a':Nat),af (m':Nat),af (b':Nat),.func (.func 39) #[aw gp] #[]] W (fX w0 g n a' b' E)
def SyQ (w0:rQ)(g n a b:Nat)(D:Nat->aQ ds gp)(d:List Deferred)(Q:yD):Prop:=∀A W,A.defers=d->fX w0 g n a b D (.returned (.tuple #[])) W->Q .normal A W
structure SyO (a b mid s f:Nat) (R:Nat->aQ ds gp):Prop where
 o:a < mid/\mid < b/\a<=s/\s<=mid/\mid<=f/\f<=b
 q1:gV R a s
 q2:gV R s mid
 q3:gV R mid f
 q4:gV R f b
 q5:∀x y,a<=x->x < mid->mid<=y->y < b->le (R x) (R y)
variable{vn:Value}{R S:Nat->aQ ds gp}{T:x_}{d:List Deferred}{Q:yD}
theorem zbS.Kao(h:p:=by
 have HS:=aa hS;have HO:=aa hw;have HW:=aa h1;have HL:=aa h2;have HD:=aa hd;have o:=hw.o;have Q3:=aa (hw.q3.congr (E:=S) λ x h1 h2=>HW.ae.ae x (.inr h1));have Q4:=aa (hw.q4.congr (E:=S) λ x h1 h2=>HW.ae.ae x (.inr TD));have bn:=HI.ae.1;clear hS hw h1 h2 hd;simp only[syB,eZ,Tryz.f106,Option.getD_some];have key:∀A W U,A.defers=d->SS w0 g n W U->Sw mid b S U->gV U mid b->Q .normal A W:=λ A W U k0 k1 k2 k3=>by have e:=adY ⟨by omega,by omega⟩ HO.ae.q5 HW.ae k2 HL.ae k3;exact HQ.ae _ _ k0 ⟨rfl,U,k1,HD.ae.trans e.2,e.1⟩
 have HK:=aa key;clear key;by_cases c:mid < f/\f < b
 ·have u1:decide (mid < f)=true:=decide_eq_true c.1;have u2:decide (f < b)=true:=decide_eq_true c.2;have C:=aa c;clear c;go_wp2_with fail;refine(HI.ae.2.2 mid f b S _ C.ae.1 C.ae.2 HI.ae.1 TD HS.ae Q3.ae Q4.ae).mono ?_;rintro e_ w7 ⟨rfl,U,k1,k2,k3⟩;have K1:=aa k1;have K2:=aa k2;have K3:=aa k3;clear k1 k2 k3;go_wp2_with fail;exact HK.ae _ _ U rfl K1.ae K2.ae K3.ae
 ·have H6:gV S mid b:=by
   rcases(show f=mid\/f=b by omega)with e | e
   ·have:=Q4.ae;rwa [e] at this
   ·have:=Q3.ae;rwa [e] at this
  have H6:=aa H6;by_cases c1:mid < f
  ·have u1:decide (mid < f)=true:=decide_eq_true c1;have u2:decide (f < b)=false:=decide_eq_false λ e=>c ⟨c1,e⟩
   exact ZgZ
  ·have u1:decide (mid < f)=false:=decide_eq_false c1;exact ZgZ):p:=h
theorem sy3{cap:Nat}  {s:Nat}  (hT:SyT (.func (.func 39) #[aw gp] #[]) T g n cap a m b mid (vn) (af s) (af f))   (hS:SS w0 g n w S)(hw:SyO a b mid s f R)(h1:Sw a mid R S)(h2:gV S a mid)(hd:Sw a b D R)(hI:SyI w0 g n cap a b D)(hQ:SyQ w0 g n a b D d Q):
  (eZ syB 11).wp Tryz.prog Q { tmps:=T,defers:=d } w:=by
 open zbS in exact ZaD
theorem zhR.Kck(h:p:=by
 by_cases c:a < s/\s < mid
 ·have u1:decide (a < s)=true:=decide_eq_true c.1;have u2:decide (s < mid)=true:=decide_eq_true c.2;have C:=aa c;clear c;go_wp2_with fail;refine(HI.ae.2.2 a s mid R _ C.ae.1 C.ae.2 TD TD HS.ae HO.ae.q1 HO.ae.q2).mono ?_;rintro e_ w7 ⟨rfl,U,k1,k2,k3⟩;have K1:=aa k1;have K2:=aa k2;have K3:=aa k3;clear k1 k2 k3;go_wp2_with fail;exact Ed.ae _ _ (HY.ae U _ K1.ae K2.ae K3.ae _ ⟨rfl,rfl,rfl,rfl,rfl,rfl,rfl,rfl,rfl,rfl⟩)
 ·have H6:gV R a mid:=by
   rcases(show s=a\/s=mid by omega)with e | e
   ·have:=HO.ae.q2;rwa [e] at this
   ·have:=HO.ae.q1;rwa [e] at this
  have H6:=aa H6;by_cases c1:a < s
  ·have u1:decide (a < s)=true:=decide_eq_true c1;have u2:decide (s < mid)=false:=decide_eq_false λ e=>c ⟨c1,e⟩
   exact Ze3
  ·have u1:decide (a < s)=false:=decide_eq_false c1;exact Ze3):p:=h
theorem zbT.Kao(h:p:=by
 have HS:=aa hS;have HO:=aa hw;have HD:=aa hd;have o:=hw.o;have bn:=HI.ae.1;clear hS hw hd;have HY:=aa λ(S:Nat->aQ ds gp) W (k1:SS w0 g n W S) (k2:Sw a mid R S) (k3:gV S a mid) T hT=>sy3 (T:=T) (d:=d) (m:=m) (vn:=vn) hT k1 HO.ae k2 k3 HD.ae HI.ae HQ.ae
 open zhR in exact Zg3):p:=h
theorem sy2{cap:Nat}  {s:Nat}  (hT:SyT (.func (.func 39) #[aw gp] #[]) T g n cap a m b mid (vn) (af s) (af f))   (hS:SS w0 g n w R)(hw:SyO a b mid s f R)(hd:Sw a b D R)(hI:SyI w0 g n cap a b D)(hQ:SyQ w0 g n a b D d Q):
  (eZ syB 10).wp Tryz.prog Q { tmps:=T,defers:=d } w:=by
 open zbT in exact ZaD
variable{vf:Value}
theorem zhS.Kck(h:p:=by
 go_wp2_with fail;refine Ed.ae _ _ ?_;clear Ed zf;refine wp_seq_k λ K hK=>?_
 have Ed:=aa hK;clear hK;by_cases c:s < m/\m < f
 ·have u1:decide (s < m)=true:=decide_eq_true c.1;have u2:decide (m < f)=true:=decide_eq_true c.2;have C:=aa c;clear c;go_wp2_with fail;refine(Ro w0 g n cap s m f D _ HS.ae HI.ae.2.1 C.ae.1 C.ae.2 TD).mono ?_;rintro e_ w7 ⟨rfl,k1⟩;have K1:=aa k1;clear k1;go_wp2_with fail;exact Ed.ae _ _ (HY.ae _ K1.ae (adX D s m f C.ae.1 C.ae.2) _ ⟨rfl,rfl,rfl,rfl,rfl,rfl,rfl,rfl,rfl,rfl⟩)
 ·have e1:fl D s m f=D:=by
   rcases(show s=m\/f=m by omega)with e | e
   ·rw[e];exact WT D m f
   ·rw[e];exact Rp D s m
  rw[e1] at HY;clear e1;by_cases c1:s < m
  ·have u1:decide (s < m)=true:=decide_eq_true c1;have u2:decide (m < f)=false:=decide_eq_false λ e=>c ⟨c1,e⟩
   exact Zfd
  ·have u1:decide (s < m)=false:=decide_eq_false c1;exact Zfd):p:=h
theorem zbU.Kao(h:p:=by
 obtain⟨f,hf⟩:∃f,f=mid+m - s:=⟨_,rfl⟩;obtain⟨e1,e2,e3,e4,e5⟩:=Rq hp hf he k1 k2 hF hs.1 hs.2;have HS:=aa hS;have o:a < mid/\mid < b/\a < m/\m < b/\a<=s/\s<=m/\s<=mid/\mid+m<=s+b:=by have:=he.ab;have:=he.ahK;have:=he.ends;omega
 have HO:=aa (show SyO a b mid s f (fl D s m f)from⟨by omega,e1,e2,e3,e4,e5⟩);have bn:=HI.ae.1;have bn2:=HI.ae.2.1;have zf:(mid:Int)+(m:Int) - (s:Int)=(f:Int):=by omega
 have of:m<=f/\f<=b:=by omega
 clear hS he hp k1 k2 hF hs hf e1 e2 e3 e4 e5;have HY:=aa λ W (k1:SS w0 g n W (fl D s m f)) (k2:Sw s f D (fl D s m f)) T hT=>sy2 (T:=T) (d:=d) (m:=m) (vn:=af (mid+m:Nat)) hT k1 HO.ae (k2.mono TD TD) HI.ae HQ.ae
 open zhS in exact Zg3):p:=h
theorem sy1{cap:Nat} {s p:Nat}   (hT:SyT (.func (.func 39) #[aw gp] #[]) T g n cap a m b mid (af (mid+m:Nat)) (af s) (vf))   (hS:SS w0 g n w D)(he:tN a m b mid s0 r0)(hp:p=mid+m - 1)(k1:gV D a m)(k2:gV D m b)(hF:Found D p s0 r0 s s)(hs:s0<=s/\s<=r0)(hI:SyI w0 g n cap a b D)(hQ:SyQ w0 g n a b D d Q):
  (eZ syB 8).wp Tryz.prog Q { tmps:=T,defers:=d } w:=by
 open zbU in exact ZaD
theorem zaG.Kac(h:p:=by
 go_wp2_with fail;go_roundw;case rel=>exact⟨i,jp,by omega,by omega,by omega,rfl,rfl,H3.ae,HX.ae⟩
 case measure=>exact ZaU):p:=h
theorem zaH.Kac(h:p:=by
 go_wp2_with fail;go_roundw;case rel=>exact⟨jp+1,j,by omega,by omega,by omega,by go_num,rfl,H3.ae,HX.ae⟩
 case measure=>exact ZaU):p:=h
theorem zej.KaV(h:p:=by
 have zpc:(p:Int) - (jp:Int)=((p - jp:Nat):Int):=by omega
 have HG:=aa (Found.goP mr.ae HO.ae A1.ae A2.ae HF.ae FV hjr cL hcr);have c1:=λ q:Ext wr.heap.size wr=>(H2.ae.at_.later q.h).cell (p - jp) TD
 have JJ:=λ q:Ext wr.heap.size wr=>(H2.ae.at_.later q.h).kK (p - jp) TD
 have c2:=λ q:Ext wr.heap.size wr=>(H2.ae.at_.later q.h).cell jp TD
 have JK:=λ q:Ext wr.heap.size wr=>(H2.ae.at_.later q.h).kK jp TD
 have hc:=λ q:Ext wr.heap.size wr=>H2.ae.cmp (p - jp) jp TD TD q.h
 by_cases hl:wS (D (p - jp)) (D jp)< 0
 ·have t2:=decide_eq_true hl;have HX:=aa (HG.ae.2 hl);clear hl;refine aW 14 wr.heap.size wr (Below.refl _ _) WC WC WC WC ?_;open zaG in exact Zai
 ·have t2:=decide_eq_false hl;have HX:=aa (HG.ae.1 hl);clear hl;refine aW 14 wr.heap.size wr (Below.refl _ _) WC WC WC WC ?_;open zaH in exact Zai):p:=h
theorem zhT.Kck(h:p:=by
 go_wp2_with fail;go_loopw [20,21] (λ sv rv wr=>∃i j:Nat,s0<=i/\i<=j/\j<=r0/\sv=af i/\rv=af j/\SS w0 g n wr D/\Found D p s0 r0 i j) (λ sv rv _=>(intOf rv).toNat - (intOf sv).toNat);case atStart=>exact⟨s0,r0,Nat.le_refl _,by omega,Nat.le_refl _,rfl,rfl,HS.ae,λ jp h1 h2=>by omega,λ jp h1 h2=>by omega⟩
 case round=>
  clear HS;obtain⟨i,j,FV,nA,hjr,rfl,rfl,gu,hF⟩:=hrel;have H2:=aa gu;have HF:=aa hF;clear gu hF;by_cases hlt:i < j
  ·go_upto_region 35 with fail;open zej in exact Zcg
  ·obtain rfl:i=j:=by omega
   clear hlt nA;go_wp2_with fail;exact Ed.ae _ _ (HY.ae i _ H2.ae HF.ae ⟨FV,hjr⟩ _ _ ⟨rfl,rfl,rfl,rfl,rfl,rfl,rfl,rfl,rfl,rfl⟩)):p:=h
theorem zdQ.KaM(h:p:=by
 have h21:=(bC u (show 21 < 220 by decide)).symm.trans e21;have NY:=(bC u (show 22 < 220 by decide)).symm.trans e22;have U1:=(bC u (show 24 < 220 by decide)).symm.trans hT.t24;simp only[frN,List.range,List.range.loop,List.map,h0,h1,h2,h3,h4,T8,T9,U0,h21,NY,U1];clear hT h0 h1 h2 h3 h4 T8 T9 U0 h21 NY U1 e21 e22;have HI:=aa hI;have HQ:=aa hQ;have mixed:Tryz.prog.follows .mixedOrders=true:=by kernel_rfl
 clear hI hQ;have HS:=aa hS;have HO:=aa hw;have mr:=aa AL;have A1:=aa Ai;have A2:=aa G3;have bn:=HI.ae.1;have bn2:=HI.ae.2.1;have o:a < mid/\mid < b/\a<=s0/\s0<=r0/\r0<=m/\r0<=mid/\mid+m<=s0+b/\p+1=mid+m:=by have:=hw.ab;have:=hw.ahK;have:=hw.ends;omega
 clear hS hw AL Ai G3;have HY:=aa λ s W (Ai:SS w0 g n W D) (G3:Found D p s0 r0 s s) (k3:s0<=s/\s<=r0) T vf hT=>sy1 (T:=T) (d:=d) (vf:=vf) hT Ai HO.ae mr.ae A1.ae A2.ae G3 k3 HI.ae HQ.ae
 open zhT in exact Zg3):p:=h
theorem syL{cap:Nat} {p:Nat}   (hT:SyT (.func (.func 39) #[aw gp] #[]) T g n cap a m b mid (af (mid+m:Nat)) (af s0) (vf))   (e21:T.getD 21 undef=af r0)(e22:T.getD 22 undef=af p)(hS:SS w0 g n w D)(hw:tN a m b mid s0 r0)(AL:p=mid+m - 1)(Ai:gV D a m)(G3:gV D m b)(hI:SyI w0 g n cap a b D)(hQ:SyQ w0 g n a b D d Q):
  (eZ syB 7).wp Tryz.prog Q { tmps:=T,defers:=d } w:=by
 open zdQ in exact ZbM
theorem aec (w0:rQ)(g n cap a m b:Nat)(D:Nat->aQ ds gp)(w:rQ)(h:SS w0 g n w D)(ham:a+1 < m)(hmb:m+1 < b)(k1:gV D a m)(k2:gV D m b)(hI:SyI w0 g n cap a b D):
  ar 106 #[aL g n cap,af a,af m,af b,.func (.func 39) #[aw gp] #[]] w (fX w0 g n a b D):=by
 obtain⟨mid,aqD⟩:∃q:Nat,q=(a+b)/ 2:=⟨_,rfl⟩;obtain⟨p,hp⟩:∃q:Nat,q=mid+m - 1:=⟨_,rfl⟩;obtain⟨nn,qR⟩:∃q:Nat,q=mid+m:=⟨_,rfl⟩;have HS:=aa h;have mixed:Tryz.prog.follows .mixedOrders=true:=by kernel_rfl
 have t0:((m:Int) - (a:Int)==1)=false:=by simp;omega
 have t1:((b:Int) - (m:Int)==1)=false:=by simp;omega
 have zm:((a:Int)+(b:Int))/ 2=(mid:Int):=by omega
 have zn:(mid:Int)+(m:Int)=(nn:Int):=by omega
 have zp:(nn:Int) - 1=(p:Int):=by omega
 have bn:=hI.1;have bn2:=hI.2.1;have HY:=aa λ s0 r0 (he:tN a m b mid s0 r0) W (k0:SS w0 g n W D) Q (hQ:SyQ w0 g n a b D [] Q) T vf hT e1 e2=>syL (T:=T) (d:=[]) (vf:=vf) hT e1 e2 k0 he hp k1 k2 hI hQ
 simp only[syB,eZ,Tryz.f106,Option.getD_some] at HY;rw[<- qR] at HY;clear h hp k1 k2 hI;have bm:a < mid/\mid < b:=by omega
 have HM:=aa aqD;have HNN:=aa qR;clear aqD qR;by_cases c:mid < m
 ·have c1:decide ((mid:Int)<(m:Int))=true:=decide_eq_true TD;have c2:decide (mid < m)=true:=decide_eq_true c;obtain⟨s0,hs0⟩:∃q:Nat,q=mid+m - b:=⟨_,rfl⟩;have HE:=aa (show tN a m b mid s0 mid from⟨⟨by omega,by omega⟩,HM.ae,.inl ⟨c,hs0,rfl⟩⟩);have zs:(nn:Int) - (b:Int)=(s0:Int):=by have:=HNN.ae;omega
  have bs:s0<=2000:=by omega
  clear hs0 c;exact Zb1
 ·have c1:decide ((mid:Int)<(m:Int))=false:=decide_eq_false TD;have c2:decide (mid < m)=false:=decide_eq_false c;have HE:=aa (show tN a m b mid a m from⟨⟨by omega,by omega⟩,HM.ae,.inr ⟨by omega,rfl,rfl⟩⟩);clear c;exact Zb1
theorem TU (w0:rQ)(g n cap:Nat)(hn:n<=1000):∀(N a m b:Nat) (D:Nat->aQ ds gp) (w:rQ),b - a<=N->a < m->m < b->b<=n->SS w0 g n w D->gV D a m->gV D m b->
  ar 106 #[aL g n cap,af a,af m,af b,.func (.func 39) #[aw gp] #[]] w (fX w0 g n a b D):=by
 intro N
 induction N with
 | zero=>intro a m b D w h0 h1 h2;omega
 | succ N ih=>
   intro a m b D w h0 h1 h2 hb h q1 q2;by_cases c1:m=a+1
   ·subst c1;have:=adZ w0 g n cap a b D w h hn h2 hb q2;exact ZeR
   by_cases c2:b=m+1
   ·subst c2;have:=aea w0 g n cap a m D w h hn TD hb q1;exact ZeR
   exact aec w0 g n cap a m b D w h TD TD q1 q2 ⟨hb,hn,λ a' m' b' E W k1 k2 k3 k4 k5 k6 k7=>ih a' m' b' E W TD k1 k2 k3 k5 k6 k7⟩
def Rs (E:Nat->aQ ds gp)(s n:Nat):Prop:=∀a,s ∣ a->gV E a (min (a+s) n)
theorem Dx{d x y:Nat}(h1:d ∣ x)(h2:d ∣ y)(h:x < y):x+d<=y:=by obtain⟨u,rfl⟩:=h1;obtain⟨v,rfl⟩:=h2;have:u < v:=Nat.lt_of_mul_lt_mul_left h;have h3:=Nat.mul_le_mul_left d (show u+1<=v by omega);rw[Nat.mul_add,Nat.mul_one] at h3;exact h3
def Low (E:Nat->aQ ds gp)(s a:Nat):Prop:=∀x,s ∣ x->x+s<=a->gV E x (x+s)
def U2 (E:Nat->aQ ds gp)(s a n:Nat):Prop:=∀x,s ∣ x->a<=x->gV E x (min (x+s) n)
theorem Low.step{s:Nat}(h:Low E s a)(hd:s ∣ a)(hw:Sw a (a+s) E F)(ho:gV F a (a+s)):Low F s (a+s):=by
 intro x hx hle;rcases Nat.lt_or_ge x a with h1 | h1
 ·have:=Dx hx hd h1;exact(h x hx this).congr λ i h2 h3=>hw.ae i (.inl TD)
 ·rw[show x=a by omega];exact ho
theorem U2.step{s:Nat}(h:U2 E s a n)(hab:a<=b)(hw:Sw a b E F):U2 F s b n:=λ x hx hle=>(h x hx TD).congr λ i h2 h3=>hw.ae i (.inr TD)
theorem uM{s:Nat}(h:Low E s a)(hd:s ∣ a)(han:a<=n)(hn:n < a+s)(hw:Sw a n E F)(ho:gV F a n):Rs F s n:=by
 intro x hx;rcases Nat.lt_trichotomy x a with h1 | h1 | h1
 ·have h2:=Dx hx hd h1;exact((h x hx h2).congr λ i h3 h4=>hw.ae i (.inl TD)).mono (Nat.le_refl _) TD
 ·subst h1;exact ho.mono (Nat.le_refl _) TD
 ·have h2:=Dx hd hx h1;exact .none TD
theorem zhP.Kcj(h:p:=by
 have HL3:=aa (mr.ae.step A2.ae hw ho);have HH3:=aa (A1.ae.step TD hw);have Qi:=aa (Nat.dvd_add A2.ae (Nat.dvd_refl (2*j)));clear hS hw ho A2 U3 mr A1 HO HS HC;go_wp2_with fail;go_roundw;case rel=>exact⟨a+2*j,G,Qi.ae,by omega,by go_num,by go_num,H2.ae,HW.ae,HL3.ae,HH3.ae⟩
 case measure=>exact ZaU):p:=h
theorem zhQ.Kcj(h:p:=by
 have HL3:=aa (uM mr.ae A2.ae han TD hw ho);clear hS hw ho A2 U3 mr A1 HO HS HC;go_wp2_with fail;go_roundw;case rel=>exact⟨2*j,G,by omega,by omega,by go_num,H2.ae,HW.ae,HL3.ae⟩
 case measure=>exact ZaU):p:=h
theorem Rt (w0:rQ)(g n cap:Nat)(D:Nat->aQ ds gp)(w:rQ)(h:SS w0 g n w D)(hn:n<=1000):
  ar 70 #[aL g n cap,af n,.func (.func 39) #[aw gp] #[]] w (fX w0 g n 0 n D):=by
 have Kx:=aa h;clear h;go_enter Tryz.func70,Tryz.ntmps70;go_wp2_with fail;go_loopw [7,8] (λ av bv wr=>∃(a:Nat) (E:Nat->aQ ds gp),20 ∣ a/\a<=n/\av=af a/\bv=af (a+20)/\SS w0 g n wr E/\Sw 0 n D E/\Low E 20 a) (λ av _ _=>n - (intOf av).toNat);case atStart=>exact⟨0,D,⟨0,rfl⟩,by omega,rfl,rfl,Kx.ae,.refl,λ x h1 h2=>by omega⟩
 case round=>
  clear Kx;obtain⟨a,E,G3,han,rfl,rfl,hS,hw,AL⟩:=hrel;have HS:=aa hS;have HO:=aa hw;have mr:=aa AL;have A2:=aa G3;clear hS hw AL G3;by_cases hlt:a+20<=n
  ·go_wp2_with fail;refine(tR w0 g n cap a (a+20) E _ HS.ae hn TD TD).mono ?_;rintro e_ w1 ⟨rfl,F,hS,hw,ho⟩;have H2:=aa hS;have HW:=aa (HO.ae.trans (hw.mono TD TD));have HL3:=aa (mr.ae.step A2.ae hw ho);have Qi:=aa (Nat.dvd_add A2.ae (Nat.dvd_refl 20));clear hS hw ho A2 mr HO HS;go_wp2_with fail;go_roundw;case rel=>exact⟨a+20,F,Qi.ae,by omega,by go_num,by go_num,H2.ae,HW.ae,HL3.ae⟩
   case measure=>exact ZaU
  ·go_wp2_with fail;refine(tR w0 g n cap a n E _ HS.ae hn TD TD).mono ?_;rintro e_ w1 ⟨rfl,F,hS,hw,ho⟩;have H2:=aa hS;have HW:=aa (HO.ae.trans (hw.mono TD TD));have HL3:=aa (uM mr.ae A2.ae han TD hw ho);clear hS hw ho A2 mr HO HS;go_wp2_with fail;go_loopw [6] (λ sv wr=>∃(j:Nat) (E:Nat->aQ ds gp),0 < j/\j<=2000/\sv=af j/\SS w0 g n wr E/\Sw 0 n D E/\Rs E j n) (λ sv _=>n - (intOf sv).toNat);case atStart=>exact⟨20,F,by omega,by omega,rfl,H2.ae,HW.ae,HL3.ae⟩
   case round=>
    clear H2 HW HL3;obtain⟨j,E,hj0,hj,rfl,hS,hw,AL⟩:=hrel;have HS:=aa hS;have HO:=aa hw;have mr:=aa AL;clear hS hw AL;by_cases hlt:j < n
    ·go_wp2_with fail;go_loopw [7,8] (λ av bv wr2=>∃(a:Nat) (E:Nat->aQ ds gp),2*j ∣ a/\a<=n/\av=af a/\bv=af (a+2*j:Nat)/\SS w0 g n wr2 E/\Sw 0 n D E/\Low E (2*j) a/\U2 E j a n) (λ av _ _=>n - (intOf av).toNat);case atStart=>exact⟨0,E,⟨0,rfl⟩,by omega,rfl,by go_num,HS.ae,HO.ae,λ x h1 h2=>by omega,λ x h1 h2=>mr.ae x h1⟩
     case round=>
      clear HS HO mr;obtain⟨a,E,G3,han,rfl,rfl,hS,hw,AL,Ai⟩:=hrel;have HS:=aa hS;have HO:=aa hw;have mr:=aa AL;have A1:=aa Ai;have A2:=aa G3;have U3:=aa (show j ∣ a from Nat.dvd_trans ⟨2,by omega⟩ G3);clear hS hw AL Ai G3;by_cases sZ:a+2*j<=n
      ·have hC:=TU w0 g n cap hn (2*j) a (a+j) (a+2*j) E wr TD TD TD sZ HS.ae ((A1.ae a U3.ae (Nat.le_refl _)).mono (Nat.le_refl _) TD) ((A1.ae (a+j) (Nat.dvd_add U3.ae (Nat.dvd_refl j)) TD).mono (Nat.le_refl _) TD);rw[show((a+j:Nat):Int)=(a:Int)+(j:Int) by omega,show((a+2*j:Nat):Int)=(a:Int)+2*(j:Int) by omega] at hC;open zhP in exact ZgM
      ·by_cases UW:a+j < n
       ·have hC:=TU w0 g n cap hn (2*j) a (a+j) n E wr TD TD UW (Nat.le_refl _) HS.ae ((A1.ae a U3.ae (Nat.le_refl _)).mono (Nat.le_refl _) TD) ((A1.ae (a+j) (Nat.dvd_add U3.ae (Nat.dvd_refl j)) TD).mono (Nat.le_refl _) TD);rw[show((a+j:Nat):Int)=(a:Int)+(j:Int) by omega] at hC;open zhQ in exact ZgM
       ·have HL3:=aa (uM mr.ae A2.ae han TD .refl ((A1.ae a U3.ae (Nat.le_refl _)).mono (Nat.le_refl _) TD));clear mr A1 A2 U3;go_wp2_with fail;go_roundw;case rel=>exact⟨2*j,E,by omega,by omega,by go_num,HS.ae,HO.ae,HL3.ae⟩
        case measure=>exact ZaU
    ·have HE:=aa (show gV E 0 n from(mr.ae 0 ⟨0,rfl⟩).mono (Nat.le_refl _) TD);go_wp2_with fail;exact bodyPost_ret (v:=.tuple #[]) Tbq rfl ⟨rfl,E,HS.ae,HO.ae,HE.ae⟩
theorem Dy (w0:rQ)(g n cap:Nat)(D:Nat->aQ ds gp)(w:rQ)(h:SS w0 g n w D)(hn:n<=1000):
  ar 38 #[aL g n cap,.func (.func 39) #[aw gp] #[]] w (fX w0 g n 0 n D):=by have HL:=Rt w0 g n cap D w h hn;clear h;go_enter Tryz.func38,Tryz.ntmps38;go_wp2_with fail;refine HL.mono ?_;rintro e w1 ⟨rfl,b1⟩;go_wp2_with fail;exact bodyPost_ret (v:=.tuple #[]) Tbr rfl ⟨rfl,b1⟩
def wU (w:rQ)(e:Ending)(w':rQ):Prop:=e=.returned (.tuple #[])/\w'=w
theorem Dz (A:z_)(cap:Nat)(w:rQ):
  ar 105 #[.slice A 0 cap,af 0,af 0,.func (.func 39) #[aw gp] #[]] w (wU w):=by
 go_enter Tryz.func105,Tryz.ntmps105;go_wp2_with fail;go_loopw [8] (λ iv wr=>iv=af 1/\wr=w) (λ _ _=>0);case atStart=>exact Ze7
 case round=>obtain⟨rfl,rfl⟩:=hrel;go_wp2_with fail;exact bodyPost_ret (v:=.tuple #[]) Tbl rfl ⟨rfl,rfl⟩
theorem Np (A:z_)(cap:Nat)(w:rQ):
  ar 70 #[.slice A 0 cap,af 0,.func (.func 39) #[aw gp] #[]] w (wU w):=by
 go_enter Tryz.func70,Tryz.ntmps70;go_wp2_with fail;go_loopw [7,8] (λ av bv wr=>av=af 0/\bv=af 20/\wr=w) (λ _ _ _=>0);case atStart=>exact⟨rfl,rfl,rfl⟩
 case round=>
  obtain⟨rfl,rfl,rfl⟩:=hrel;go_wp2_with fail;refine(Dz A cap _).mono ?_;rintro e_ w1 ⟨rfl,rfl⟩;go_wp2_with fail;go_loopw [6] (λ sv wr=>sv=af 20/\wr=w1) (λ _ _=>0);case atStart=>exact Ze7
  case round=>obtain⟨rfl,rfl⟩:=hrel;go_wp2_with fail;exact bodyPost_ret (v:=.tuple #[]) Tbq rfl ⟨rfl,rfl⟩
theorem Au (A:z_)(cap:Nat)(w:rQ):
  ar 38 #[.slice A 0 cap,.func (.func 39) #[aw gp] #[]] w (wU w):=by go_enter Tryz.func38,Tryz.ntmps38;go_wp2_with fail;refine(Np A cap w).mono ?_;rintro e_ w1 ⟨rfl,rfl⟩;go_wp2_with fail;exact bodyPost_ret (v:=.tuple #[]) Tbr rfl ⟨rfl,rfl⟩
end Go.Proofs.YtndgjggokjickaaGreatDoor.L
namespace Go.Proofs.YtndgjggokjickaaGreatDoor
variable{p:Prop}
set_option maxHeartbeats 90000000
set_option maxRecDepth 100000
open Go.ChangeShapes Go.WideShapes Go.ChangeAt Go.RowKit List
set_option linter.unusedVariables false
set_option linter.unusedSimpArgs false
noncomputable def eE:Code:=Tryz.f11.body.getD .skip
def Yp (f:Nat->Value):x_:= #[f 0,f 1,f 2,f 3,f 4,f 5,f 6,f 7,f 8,f 9,f 10,f 11,f 12,f 13,f 14,f 15,f 16,f 17,f 18,f 19,f 20,f 21,f 22,f 23,f 24,f 25,f 26,f 27,f 28,f 29,f 30,f 31,f 32,f 33,f 34,f 35,f 36,f 37,f 38,f 39,f 40,f 41,f 42,f 43,f 44,f 45,f 46,f 47,f 48,f 49,f 50,f 51,f 52,f 53,f 54,f 55,f 56,f 57,f 58,f 59,f 60,f 61,f 62,f 63,f 64,f 65,f 66,f 67,f 68,f 69,f 70,f 71,f 72,f 73,f 74,f 75,f 76,f 77,f 78,f 79,f 80,f 81,f 82,f 83,f 84,f 85,f 86,f 87,f 88,f 89,f 90,f 91,f 92,f 93,f 94,f 95,f 96,f 97,f 98,f 99,f 100,f 101,f 102,f 103,f 104,f 105,f 106,f 107,f 108,f 109,f 110,f 111,f 112,f 113,f 114,f 115,f 116,f 117,f 118,f 119,f 120,f 121,f 122,f 123,f 124,f 125,f 126,f 127,f 128,f 129,f 130,f 131,f 132,f 133,f 134,f 135,f 136,f 137,f 138,f 139,f 140,f 141,f 142,f 143,f 144,f 145,f 146,f 147,f 148,f 149,f 150,f 151,f 152,f 153,f 154,f 155,f 156,f 157,f 158,f 159,f 160,f 161,f 162,f 163,f 164,f 165,f 166,f 167,f 168,f 169,f 170,f 171,f 172,f 173,f 174,f 175,f 176,f 177,f 178,f 179,f 180,f 181,f 182]
theorem yH (T:x_)(h:T.size=183):∃f:Nat->Value,T=Yp f:=by
 refine⟨λ i=>T.getD i undef,?_⟩;apply Array.ext
 ·rw[h];rfl
 ·intro i h1 h2
  have e:∀(f:Nat->Value) (i:Nat) (hi:i <(Yp f).size),(Yp f)[i]=f i:=by
   intro f i hi;have h3:(Yp f).toList=(List.range 183).map f:=rfl;have h4:(Yp f)[i]=(Yp f).toList[i]' TaC:=by simp
   exact ZfC
  rw[e];simp[Array.getD,h1]
def ajM (w:rQ)(LA:z_)(n:Nat)(D:Nat->aX×aX):Prop:=n=0\/∃g,LA=some ⟨g,0,none⟩/\g < w.heap.size/\∀i,i < n->w.cell? ⟨g,i*2,none⟩=some (.slice (D i).1.A (D i).1.l.length (D i).1.c)/\w.cell? ⟨g,i*2+1,none⟩=some (.slice (D i).2.A (D i).2.l.length (D i).2.c)
def rowsOf (D:Nat->aX×aX)(n:Nat):List aX:=(List.range n).map λ i=>(D i).1
theorem Nq (D:Nat->aX×aX)(n:Nat):rowsOf D (n+1)=rowsOf D n++ [(D n).1]:=by unfold rowsOf;rw[range_succ,map_append];rfl
theorem DB (D:Nat->aX×aX)(n:Nat):(rowsOf D n).length=n:=by simp[rowsOf]
theorem zgF.KbP(h:p:=by
 obtain⟨OA,oc,LK,_⟩:=HO.ae.reads;subst LK;have HOX:=HO;have awT:=HO.ae.other MD.ae V0;clear HO;go_wp2_with fail;refine HH.ae _ _ (.slice OA (rowsOf D k).length oc) rfl rfl rfl (((MD.ae.aT 0 _).aT 1 _).aT 2 _) ?_ (aG (aG (aG (aO hb) _ _) _ _) _ _);refine HOX.ae.keep λ Kx Lw=>?_
 have hn:Kx≠g6:=λ e=>awT TaS
 rw[Below.heap_setCell _ ⟨g6,2,none⟩ _ Kx hn,Below.heap_setCell _ ⟨g6,1,none⟩ _ Kx hn,Below.heap_setCell _ ⟨g6,0,none⟩ _ Kx hn]):p:=h
theorem aed (gp g6 n lc:Nat)(LA:z_)(D:Nat->aX×aX)(HA:z_)(hn hc:Nat)(T:x_)(hT:T.size=183)(h6:T.getD 6 undef=aw g6)(h8:T.getD 8 undef=aw gp)(WV:T.getD 13 undef=.slice LA n lc)(d:List Deferred)(w:rQ)(Q:yD)
  (qR:n<=1000000) (sy:gp < w.heap.size) (hch:w.cell? ⟨gp,12,none⟩=some (.slice HA hn hc)) (rH:aB w g6 33 #[ay,ay,af 0]) (hL:ajM w LA n D)
  (h:∀a W ov,a.defers=d->a.tmps.getD 6 undef=aw g6->a.tmps.getD 7 undef=af 0->aB W g6 33 #[.slice HA hn hc,ov,af n]->aH cq 38 1 W w.heap.size ov (rowsOf D n)->w.grownBy W (some g6)->Q .ret a W):
  (eZ eE 14).wp Tryz.prog Q { tmps:=T,defers:=d } w:=by
 obtain⟨f,rfl⟩:=yH T hT;have h6:f 6=_:=h6;have h8:f 8=_:=h8;have WV:f 13=_:=WV;simp only[Yp,h6,h8,WV];clear h6 h8 WV;clear h6 h8 WV hT;have HH:=aa h;have xl:=aa rH;have HL:=aa hL;have b1:=ah w (.cells #[.slice HA hn hc,ay,af n] 33);have cN:=aB.new w 33 #[.slice HA hn hc,ay,af n];have eX:=aa b1;have HX:=aa cN;clear h rH hL b1 cN;simp only[eE,eZ,Tryz.f11,Option.getD_some];go_upto_region 33 with fail;clear hch sy;obtain⟨g,hg⟩:∃g,g=w.heap.size:=⟨_,rfl⟩;rw[<- hg] at HX ⊢;have wC:=aa hg;clear hg;generalize w.alloc _=W1 at*;go_wp2_with fail;go_loopw [170] (λ i wr=>∃(k:Nat) (ov:Value),k<=n/\i=af k/\aB wr g 33 #[.slice HA hn hc,ov,af n]/\aH cq 38 1 wr w.heap.size ov (rowsOf D k)/\aj w wr) (λ i _=>n - (intOf i).toNat);case atStart=>exact⟨0,_,Nat.zero_le _,rfl,HX.ae,aH.nil,eX.ae⟩
 case round=>
  clear eX HX;obtain⟨k,ov,hk,rfl,hR,hO,hb⟩:=hrel;have HC:=aa hR;have HO:=aa hO;clear hR hO;by_cases hlt:k < n
  ·obtain⟨lb,hA,ze,cL⟩:∃Kx,LA=some ⟨Kx,0,none⟩/\Kx < w.heap.size/\∀i,i < n->w.cell? ⟨Kx,i*2,none⟩=some (.slice (D i).1.A (D i).1.l.length (D i).1.c)/\w.cell? ⟨Kx,i*2+1,none⟩=some (.slice (D i).2.A (D i).2.l.length (D i).2.c):=by
    rcases HL.ae with h | h
    ·omega
    ·exact h
   obtain⟨z0,z1⟩:=cL k hlt;have Ly:=(hb.cell (p:=⟨lb,k*2,none⟩) ze).trans z0;have KK:=(hb.cell (p:=⟨lb,k*2+1,none⟩) ze).trans z1;subst hA;have HS:=aa (Nq D k);have AW:=aa (DB D k);generalize (D k).1=r at*;generalize (D k).2=s at*;generalize rowsOf D k=rs at*;clear ze cL z0 z1;go_upto_region 36 with fail;have b1:=ah wr (.cells #[.slice r.A r.l.length r.c,.slice s.A s.l.length s.c] 91);have cN:=aB.new wr 91 #[.slice r.A r.l.length r.c,.slice s.A s.l.length s.c];have cb:=cN.cell 0;simp only[getElem?_toArray,getElem?_cons_zero] at cb;have QU:=aa (HC.ae.later b1);have yq:=aa (HO.ae.later b1);have hb1:=ai.then hb b1;have HK:=aa cN;clear b1 HC HO hb cN Ly KK;generalize hw1:wr.alloc (.cells #[.slice r.A r.l.length r.c,.slice s.A s.l.length s.c] 91)=W2 at*;generalize wr.heap.size=gl at*;clear hw1;have y1:=QU.ae.cell 1;simp only[Uaa] at y1;have hB:=ah W2 (.cells #[.slice r.A r.l.length r.c] 38);have hG:=aB.new W2 38 #[.slice r.A r.l.length r.c];have Yc:=aa (QU.ae.later hB);have LY:=aa (yq.ae.later hB);have hb2:=ai.then hb1 hB
   have HG:=aa hG;have hbase:=hb2.size;have lX:=AW.ae;clear hB hG QU yq;go_wp2_with (first
    |(at_builtin
      refine aS rfl (.tmp 175) (.tmp 178) 29 rfl _ 24 Tryz.underlying29 qU rfl TD r rfl TaA rfl LY.ae W2.heap.size rfl HG.ae TD TD hbase ?_
      intro v4 w4 o4 g4
      obtain⟨A4,c4,hv4,_⟩:=o4.reads
      rw[length_append,length_singleton,lX] at hv4
      subst hv4
      have G4:=aa (Yc.ae.jr LY.ae V0 g4)
      have gc:=G4.ae.cell 1
      have gf:=G4.ae.frozen 1
      simp only[Uaa] at gc
      have B4:=aa (bj LY.ae g4 hbase)
      have O4:=aa o4
      clear o4 g4))
   go_roundw;case rel=>have hgn:=O4.ae.other G4.ae V0;refine⟨k+1,_,hlt,by go_num,G4.ae.aT 1 _,?_,(hb2.trans B4.ae).setCell TaQ _⟩;rw[HS.ae];exact O4.ae.keep λ Kx Lw=>Below.heap_setCell _ ⟨g,1,none⟩ _ Kx (λ e=>hgn TaS)
   case measure=>exact ZaU
  ·have gw:k=n:=by omega
   subst gw;have y0:=HC.ae.cell 0;have y1:=HC.ae.cell 1;have c2:=HC.ae.cell 2;simp only[Uaa] at y0 y1 c2;have MD:=aa (show aB wr g6 33 #[ay,ay,af 0] from(hb.block g6 xl.ae.lt).trans xl.ae);open zgF in exact ZeF
def fc (x:aX×aX):wL:=[.slice x.1.A x.1.l.length x.1.c,.slice x.2.A x.2.l.length x.2.c]
def Nr (x:aX×aX):fg:=⟨x.1.l,x.2.l⟩
theorem TV:(Tryz.prog.info? 91).map (λ i=>(i.zero,i.size,i.bytes))=some (some (.agg #[ay,ay]),2,48):=by exact ZgH
variable{ds:List Bool}{gp:Nat}
def toD(x:aX×aX):L.aQ ds gp:=⟨x.1,x.2⟩
variable{w w':rQ}{A:z_}{l:v_}
theorem cM.later(h:cM w A l)(hb:aj w w'):cM w' A l:=h.keep hb.size λ b cur hc=>hb.block b hc.lt
variable{α:Type}{f:α->wL}{e:TypeId}{size base:Nat}
theorem cM.own{v:Value} {l:List α}   {k:v_}(h:cM w A k)(ho:aH f e size w base v l)(he:44≠e)(hg:w.grownBy w' v.ownBlock):cM w' A k:=
 h.keep hg.size λ b cur hc=>hg.block b hc.lt λ e2=>ho.other hc he e2.symm
structure jf (w:rQ) (r:aX):Prop where
 key:cM w r.A r.l
 cap:r.l.length<=r.c
variable{r:aX}
theorem jf.map(h:jf w r)(k:cM w r.A r.l->cM w' r.A r.l):jf w' r:=⟨k h.key,h.cap⟩
theorem jf.later(h:jf w r)(hb:aj w w'):jf w' r:=⟨h.key.later hb,h.cap⟩
theorem jf.own{v:Value} {l:List α}  (h:jf w r)(ho:aH f e size w base v l)(he:44≠e)(hg:w.grownBy w' v.ownBlock):jf w' r:=⟨h.key.own ho he hg,h.cap⟩
theorem jf.rv(h:jf w r):RV w w.heap.size r.A r.l:=h.key.rv
def U4 (ord:List (Tr×Bool))(LA:z_)(dM:List (aX×aX))(lv:Value)(w:rQ)(e:Ending)(w':rQ):Prop:=
 e=.returned (.tuple #[])/\∃E:Nat->aX×aX,ajM w' LA dM.length E/\((List.range dM.length).map λ i=>Nr (E i)).map fg.row=(mf (ord.map λ o=>o.2) (dM.map Nr)).map fg.row/\(∀i,i < dM.length->E i∈dM)/\w.grownBy w' lv.ownBlock
theorem TW:∀(l:List (aX×aX)) (i:Nat) x,l[i]?=some x->(l.flatMap fc)[i*2]?=some (.slice x.1.A x.1.l.length x.1.c)/\(l.flatMap fc)[i*2+1]?=some (.slice x.2.A x.2.l.length x.2.c)
 | [],i,x,h=>by simp at h
 | y::l,0,x,h=>by simp at h;subst h;exact⟨rfl,rfl⟩
 | y::l,i+1,x,h=>by
   have:=TW l i x Tai;rw[flatMap_cons];rw[getElem?_append_right (by simp[fc];omega),getElem?_append_right (by simp[fc];omega)];have e1:(i+1)*2 - (fc y).length=i*2:=by simp[fc];omega
   have e2:(i+1)*2+1 - (fc y).length=i*2+1:=by simp[fc];omega
   rw[e1,e2];exact this
theorem Ru (gp:Nat)(ord:List (Tr×Bool))(oA:z_)(on oc:Nat)(dM:List (aX×aX))(base:Nat)(LA:z_)(lc:Nat)(w:rQ)(qR:dM.length<=1000)(hon:ord.length<=1599289640356)(sy:gp < w.heap.size)(Cm:w.cell? ⟨gp,6,none⟩=some (.slice oA on oc))(hgt:∃cs,aB w gp 81 cs)(hO:fE w (ord.map λ x=>(x.1,Value.bool x.2)) oA on)
  (hOt:∀b,base<=b->∀w',w.grownBy w' (some b)->fE w' (ord.map λ x=>(x.1,Value.bool x.2)) oA on)
  (Yj:aH fc 91 2 w base (.slice LA dM.length lc) dM) (rP:∀x∈dM,jf w x.1/\cM w x.2.A x.2.l/\x.1.l.length<=1000/\x.2.l.length=ord.length):
  ar 38 #[.slice LA dM.length lc,.func (.func 39) #[aw gp] #[]] w (U4 ord LA dM (.slice LA dM.length lc) w):=by
 by_cases h0:dM=[]
 ·subst h0;refine(L.Au LA lc w).mono ?_;rintro e w' ⟨rfl,rfl⟩;exact⟨rfl,λ _=>(⟨none,[],0⟩,⟨none,[],0⟩),.inl rfl,rfl,λ i hi=>by simp at hi,⟨rfl,rfl,rfl,Nat.le_refl _,λ _ _ _=>rfl⟩⟩
 ·have hlen:0 < dM.length:=List.length_pos_iff.2 h0;obtain⟨Ie,h1 |⟨g,cap,cur,hv,hbg,hg,hlc,hm,hsz,lT⟩⟩:=Yj
  ·omega
  ·injection hv with e1 _ e2;subst e1 e2;have hD0:∀i,i < dM.length->∃x,dM[i]?=some x:=λ i hi=>⟨_,getElem?_eq_getElem hi⟩
   let d0:aX×aX:=(⟨none,[],0⟩,⟨none,[],0⟩);let D:Nat->L.aQ (ord.map λ o=>o.2) gp:=λ i=>toD (dM.getD i d0)
   have Ku:∀i (hi:i < dM.length),dM.getD i d0=dM[i]:=λ i hi=>by rw[getD_eq_getElem?_getD,getElem?_eq_getElem hi];rfl
   have nC:∀(j:Nat) v,(dM.flatMap fc)[j]?=some v->cur[j]?=some v:=λ j v hj=>by
    rw[<- Array.getElem?_toList];have:(cur.toList.take (dM.length*2))[j]?=some v:=by rw[lT];exact hj
    rw[getElem?_take] at this;split at this
    ·exact this
    ·cases this
   have hAt:L.At w g dM.length D:=by
    refine⟨cur,hg,?_,λ i hi=>?_⟩
    ·rw[hsz];exact Nat.mul_le_mul_right 2 hlc
    ·obtain⟨f1,f2⟩:=TW dM i dM[i] (getElem?_eq_getElem hi);refine⟨(nC _ _ f1).trans ?_,(nC _ _ f2).trans ?_⟩
     ·show _=some (Value.slice (dM.getD i d0).1.A (dM.getD i d0).1.l.length (dM.getD i d0).1.c);rw[Ku i hi]
     ·show _=some (Value.slice (dM.getD i d0).2.A (dM.getD i d0).2.l.length (dM.getD i d0).2.c);rw[Ku i hi]
   have hRN:∀r:aX,cM w r.A r.l->L.RN w g r:=λ r hr=>by
    rcases hr.rv with h |⟨b,off,e1,e2,e3⟩
    ·exact .inl h
    ·obtain⟨cs,hcs⟩:=hr.ty _ e1;exact .inr ⟨b,off,e1,e2,λ e=>by have:=kX hcs hg V0;exact this e,e3⟩
   have ajO:∀k,k < dM.length->L.RN w g (D k).row/\L.RN w g (D k).keys/\(D k).row.l.length<=1000/\(D k).keys.l.length=(ord.map λ o=>o.2).length:=λ k hk=>by
    have hx:=rP dM[k] (getElem_mem hk);have e:D k=toD dM[k]:=by show toD (dM.getD k d0)=_;rw[Ku k hk]
    rw[e];exact⟨hRN _ hx.1.key,hRN _ hx.2.1,hx.2.2.1,by rw[length_map];exact hx.2.2.2⟩
   have ej:gp≠g:=by obtain⟨cs,hcs⟩:=hgt;exact kX hcs hg V0
   have ajP:L.agI (ord.map λ o=>o.2) gp w g:=λ x y W hW r1 r2 r3 r4 l1 l2 l3 l4=>by rw[length_map] at l3 l4;have hc:=Nj gp ord oA on oc ⟨x.row,x.keys⟩ ⟨y.row,y.keys⟩ W hon (Nat.lt_of_lt_of_le sy hW.size) ((bI (hW.block gp sy (λ e=>ej Tbj)) 6).trans Cm) (hOt g hbg W hW) ⟨r1.rv hW,r2.rv hW,l3,l1⟩ ⟨r3.rv hW,r4.rv hW,l4,l2⟩;exact hc
   refine(L.Dy w g dM.length lc D w ⟨hAt,World.grownBy.refl w _,ajO,ajP⟩ qR).mono ?_;rintro e w' ⟨rfl,E,hS,hSw,hSr⟩;refine⟨rfl,λ i=>((E i).row,(E i).keys),.inr ⟨g,rfl,Nat.lt_of_lt_of_le (show aB w g 91 cur from hg).lt hS.grown.size,λ i hi=>⟨hS.at_.cell i hi,hS.at_.kK i hi⟩⟩,?_,λ i hi=>?_,hS.grown⟩
   ·have hD:((List.range dM.length).map D).map (λ x:L.aQ (ord.map λ o=>o.2) gp=>x.s)=dM.map Nr:=by
     rw[map_map];apply ext_getElem
     ·simp
     ·intro i i1 i2;have hi:i < dM.length:=by simpa using i2
      simp only[getElem_map,getElem_range];show(toD (ds:=ord.map λ o=>o.2) (gp:=gp) (dM.getD i d0)).s=Nr dM[i];rw[Ku i hi];rfl
    have hE:((List.range dM.length).map λ i=>Nr ((E i).row,(E i).keys))=((List.range dM.length).map E).map (λ x:L.aQ (ord.map λ o=>o.2) gp=>x.s):=by rw[map_map];rfl
    rw[hE];have hp:(((List.range dM.length).map E).map (λ x:L.aQ (ord.map λ o=>o.2) gp=>x.s)).Perm (dM.map Nr):=by rw[<- hD];exact(hSw.perm (Nat.le_refl _)).map _
    unfold mf;refine Pr (pD _) fg.row (λ x y h=>Qv h) _ _ (hp.trans (lZ _ _).symm) ?_ (vO (pD _) _);rw[pairwise_map,pairwise_iff_getElem];intro i j hi hj nA;simp at hi hj;simp only[getElem_map,getElem_range];exact hSr i j TD nA hj
   ·obtain⟨k',_,Sn,he⟩:=hSw.mem i (Nat.zero_le _) hi;show((E i).row,(E i).keys)∈dM;rw[he];show((toD (ds:=ord.map λ o=>o.2) (gp:=gp) (dM.getD k' d0)).row,(toD (ds:=ord.map λ o=>o.2) (gp:=gp) (dM.getD k' d0)).keys)∈dM;rw[Ku k' Sn];exact getElem_mem Sn
theorem WW (u:rQ):(sizeOf (Tryz.prog.elem 85)).run Tryz.prog u=.ok 2 u:=by exact ZgH
theorem WY (A1:z_)(n c1 k:Nat)(hk:k<=c1)(u:rQ):(Instr.slice 85 (.slice A1 n c1) none (some (af k)) none).run Tryz.prog u=.ok (.slice A1 k c1) u:=by rw[run_slice_h u 85 A1 n c1 Tryz.underlying85 .i64 k TD TD,WW];exact Zg1
theorem zcz.Kax(h:p:=by
 clear O0 h AK SZ qK hfn hz hS hw AL Ai G3 Wy NT Cm KK hOt;have hh:=λ(n:Nat) (uT:n<=1000) D T hT h6 h8 WV d w1 Q=>aed gp g6 n lc LA D HA hn hc T hT h6 h8 WV d w1 Q TD
 simp only[eE,eZ,Tryz.f11,Option.getD_some] at hh;have ajS:=aa hh;clear hh;simp only[eE,eZ,Tryz.f11,Option.getD_some];refine wp_seq_k λ K hK=>?_
 have Ed:=aa hK;clear hK;go_wp2_with fail;refine HSO.ae.mono ?_;rintro e w1 ⟨rfl,E,hE,hs,hm,hg⟩;have HE:=aa hE;have Kx:=aa hs;have HM:=aa hm;have HG:=aa hg;clear hE hs hm hg HSO;go_wp2_with fail;refine Ed.ae _ _ ?_;clear Ed;have ajT:w1.cell? ⟨gp,12,none⟩=some (.slice HA hn hc):=by obtain⟨cs,hcs⟩:=LW.ae;exact(bI (HG.ae.block gp HFN.ae λ e=>nI.ae.other hcs V0 e.symm) 12).trans HK.ae
 have hk7:w1.cell? ⟨g3,7,none⟩=some (.slice lA lim.length lc2):=by obtain⟨cs,hcs⟩:=HO.ae;exact(bI (HG.ae.block g3 hcs.lt λ e=>nI.ae.other hcs V0 e.symm) 7).trans HS.ae
 have hb1:Below base w w1:=bj nI.ae HG.ae HJ.ae;have Rv:=aa (show aB w1 g6 33 #[ay,ay,af 0] from je.ae.jr nI.ae V0 HG.ae);have Iz:gp < w1.heap.size:=Nat.lt_of_lt_of_le HFN.ae HG.ae.size
 have hO:∀(n:Nat) (UJ:n<=dM.length) (agK:((List.range n).map λ i=>Nr (E i)).map fg.row=((match lim with | []=>mf (ord.map λ o:Tr×Bool=>o.2) (dM.map Nr)| n::_=>(mf (ord.map λ o:Tr×Bool=>o.2) (dM.map Nr)).take n.toNat).map fg.row)) (a:Act) W ov,a.defers=d->a.tmps.getD 6 undef=aw g6->a.tmps.getD 7 undef=af 0->aB W g6 33 #[.slice HA hn hc,ov,af n]->aH cq 38 1 W w1.heap.size ov (rowsOf E n)->w1.grownBy W (some g6)->Q .ret a W:=by
  intro n UJ agK a W ov e1 e2 e3 k6 oW gW;refine HH.ae a W ov (rowsOf E n) e1 e2 e3 (by rw[DB];exact k6) (oW.down (Nat.le_trans HJ.ae HG.ae.size)) (λ r hr=>?_) ?_ ?_
  ·unfold rowsOf at hr;obtain⟨i,hi,rfl⟩:=List.mem_map.1 hr;have hi:i < n:=List.mem_range.1 hi;have hx:=GZ.ae _ (HM.ae i TD);exact(hx.1.own nI.ae V0 HG.ae).map λ hk9=>hk9.keep gW.size λ b cur yy=>gW.block b yy.lt λ e=>by injection e with e;subst e;exact kX yy Rv.ae V0 rfl
  ·rw[<- agK];unfold rowsOf;rw[map_map,map_map];rfl
  ·exact⟨w1,HG.ae,gW⟩
 have HBE:=aa hO;clear hO;refine wp_seq_k λ K hK=>?_
 have Ed:=aa hK;clear hK;rcases lim with _ |⟨n,_ |⟨n2,lim⟩⟩
 ·have ml:=HBE.ae dM.length (Nat.le_refl _) Kx.ae;clear HBE;have HF:=aa ml;clear ml;go_wp2_with fail;exact Ed.ae _ _ (ajS.ae dM.length qR E _ rfl rfl rfl rfl d w1 Q Iz ajT Rv.ae HE.ae λ a W ov e1 e2 e3 k6 oW gW=>HF.ae a W ov e1 e2 e3 k6 oW gW)
 ·obtain⟨n0,n1⟩:=A1.ae n Taa;obtain hl2 |⟨lb,lo,hA,ze,cL⟩:=mr.ae
  ·cases hl2
  ·have hl0:=cL 0 n rfl;have G3:w1.cell? ⟨lb,lo,none⟩=some (af n):=by rw[Nat.add_zero] at hl0;refine(bI (HG.ae.block lb (Nat.lt_of_lt_of_le ze HJ.ae) λ e=>?_) lo).trans hl0;have:=(nI.ae.lt e.symm).2.1;omega
   subst hA;obtain⟨k,hk⟩:∃k:Nat,n=k:=⟨n.toNat,by omega⟩;subst hk;have hs2:=WY LA dM.length lc (min dM.length k) TD w1;have ml:=HBE.ae (min dM.length k) (Nat.min_le_left _ _) (by
    have h1:=congrArg (List.take k) Kx.ae
    rw[<- map_take,<- map_take,<- map_take,take_range] at h1
    rw[Nat.min_comm]
    exact h1)
   have mL:ajM w1 LA (min dM.length k) E:=by
    rcases HE.ae with h |⟨g,q1,q2,q3⟩
    ·exact .inl TD
    ·exact .inr ⟨g,q1,q2,λ i hi=>q3 i TD⟩
   have HF:=aa ml;have yG:=aa mL;clear ml mL HBE hl0 ze cL mr;by_cases hlt:k < dM.length
   ·have Bf:min dM.length k=k:=by omega
    rw[Bf] at hs2 HF yG;have sZ:((k:Int)<(dM.length:Int)):=by omega
    go_wp2_with fail;have hmt:(min (dM.length:Int) (k:Int)).toNat=k:=by omega
    simp only[hmt];exact Ed.ae _ _ (ajS.ae k TD E _ rfl rfl rfl rfl d w1 Q Iz ajT Rv.ae yG.ae λ a W ov e1 e2 e3 k6 oW gW=>HF.ae a W ov e1 e2 e3 k6 oW gW)
   ·have Bf:min dM.length k=dM.length:=by omega
    rw[Bf] at hs2 HF yG;have sZ:¬((k:Int)<(dM.length:Int)):=by omega
    go_wp2_with fail;have hmt:(min (dM.length:Int) (k:Int)).toNat=dM.length:=by omega
    simp only[hmt];exact Ed.ae _ _ (ajS.ae dM.length TD E _ rfl rfl rfl rfl d w1 Q Iz ajT Rv.ae yG.ae λ a W ov e1 e2 e3 k6 oW gW=>HF.ae a W ov e1 e2 e3 k6 oW gW)
 ·have:=A2.ae;simp at this):p:=h
theorem U5 (gp g3 g6:Nat)(ord:List (Tr×Bool))(oA:z_)(on oc:Nat)(lim:List Int)(lA:z_)(lc2:Nat)(dM:List (aX×aX))(base:Nat)(LA:z_)(lc:Nat)(HA:z_)(hn hc:Nat)(T:x_)(hT:T.size=183)(h3:T.getD 3 undef=aw g3)(h6:T.getD 6 undef=aw g6)(h8:T.getD 8 undef=aw gp)(WV:T.getD 13 undef=.slice LA dM.length lc)(d:List Deferred)(w:rQ)(Q:yD)
  (qR:dM.length<=1000) (hon:ord.length<=1599289640356) (hfn:gp < w.heap.size) (hz:w.cell? ⟨gp,12,none⟩=some (.slice HA hn hc)) (Cm:w.cell? ⟨gp,6,none⟩=some (.slice oA on oc)) (qK:∃cs,aB w gp 81 cs) (KK:fE w (ord.map λ x=>(x.1,Value.bool x.2)) oA on)
  (hOt:∀b,base<=b->∀w',w.grownBy w' (some b)->fE w' (ord.map λ x=>(x.1,Value.bool x.2)) oA on)
  (hS:w.cell? ⟨g3,7,none⟩=some (.slice lA lim.length lc2)) (hw:∃cs,aB w g3 27 cs) (AL:lim=[]\/∃b off,lA=some ⟨b,off,none⟩/\b < base/\∀i x,lim[i]?=some x->w.cell? ⟨b,off+i,none⟩=some (af x)) (Ai:∀n∈lim,0<=n/\n<=9223372036854775807) (G3:lim.length<=1)
  (SZ:aB w g6 33 #[ay,ay,af 0]) (Wy:base<=w.heap.size)
  (AK:aH fc 91 2 w base (.slice LA dM.length lc) dM) (NT:∀x∈dM,jf w x.1/\cM w x.2.A x.2.l/\x.1.l.length<=1000/\x.2.l.length=ord.length)
  (h:∀a W ov (out:List aX),a.defers=d->a.tmps.getD 6 undef=aw g6->a.tmps.getD 7 undef=af 0->aB W g6 33 #[.slice HA hn hc,ov,af out.length]->aH cq 38 1 W base ov out->(∀r∈out,jf W r)->out.map (·.l)=((match lim with | []=>mf (ord.map λ o:Tr×Bool=>o.2) (dM.map Nr)| n::_=>(mf (ord.map λ o:Tr×Bool=>o.2) (dM.map Nr)).take n.toNat).map fg.row)->(∃wm,w.grownBy wm (Value.slice LA dM.length lc).ownBlock/\wm.grownBy W (some g6))->Q .ret a W):
  (eZ eE 12).wp Tryz.prog Q { tmps:=T,defers:=d } w:=by
 obtain⟨f,rfl⟩:=yH T hT;have h3:f 3=_:=h3;have h6:f 6=_:=h6;have h8:f 8=_:=h8;have WV:f 13=_:=WV;simp only[Yp,h3,h6,h8,WV];clear h3 h6 h8 WV;clear h3 h6 h8 WV hT;have O0:=Ru gp ord oA on oc dM base LA lc w qR hon hfn Cm qK KK hOt AK NT;have hle:dM.length<=lc:=by obtain⟨_,_,e,_,hl,_⟩:=AK.reads;injection e with _ _ e;rw[e];exact hl
 have HSO:=aa O0;have HH:=aa h;open zcz in exact Za7
def DD (items order:uF)(over:List aV)(r:v_):tE fg:=match br over r (items++order)with
 | .error e=> .error e
 | .ok l=> .ok ⟨if items=[] then r else l.take items.length,l.drop items.length⟩
def wV (items order:uF)(over:List aV)(rs:List aX):List fg:=rs.filterMap λ r=>uq (DD items order over r.l)
variable{items order:uF}{over:List aV}{rs:List aX}{k:Nat}
theorem WZ(h:k < rs.length):wV items order over (rs.take (k+1))=wV items order over (rs.take k)++(match uq (DD items order over rs[k].l)with | some x=> [x] | none=> []):=by
 have e:rs.take (k+1)=rs.take k++ [rs[k]]:=by rw[take_add_one,getElem?_eq_getElem h];rfl
 unfold wV;rw[e,filterMap_append];congr 1;rw[filterMap_cons,filterMap_nil];cases uq (DD items order over rs[k].l)<;> rfl
variable{c n:Nat}{a:Addr}
theorem Ns(h:fj A c n=some a):∃b,A=some b/\b.block=a.block:=by
 unfold fj at h;split at h
 ·exact⟨a,h,rfl⟩
 ·cases A with
  | none=>cases h
  | some b=>simp only[Option.map_some,Option.some.injEq] at h;exact⟨b,rfl,by rw[<- h,vk]⟩
theorem cM.drop(h:cM w A l)(n c:Nat)(hc:l.length<=c):cM w (fj A c n) (l.drop n):=
 ⟨h.rv.TB n c hc,λ a ha=>by obtain⟨b,e1,e2⟩:=Ns ha;obtain⟨cur,yy⟩:=h.ty b e1;exact⟨cur,e2▸yy⟩⟩
structure Nt (w:rQ) (gp:Nat) (items order:uF) (over:List aV) (yi yo:u_) (IA:z_) (ic:Nat) (DA:z_) (dc:Nat) (OA:z_):Prop where
 lt:gp < w.heap.size
 c13:w.cell? ⟨gp,13,none⟩=some (.slice IA yi.length ic)
 c15:w.cell? ⟨gp,15,none⟩=some (.slice DA yo.length dc)
 ri:RE w w.heap.size IA yi
 ti:Tr.aM w (Old w) items yi
 ro:RE w w.heap.size DA yo
 eM:Tr.aM w (Old w) order yo
 rc:RC w w.heap.size OA over
variable{yi yo:u_}{IA:z_}{ic:Nat}{DA:z_}{dc:Nat}{OA:z_}
theorem Nt.later(h:Nt w gp items order over yi yo IA ic DA dc OA)(hb:aj w w'):Nt w' gp items order over yi yo IA ic DA dc OA:=
 ⟨Nat.lt_of_lt_of_le h.lt hb.size,(hb.cell (p:=⟨gp,13,none⟩) h.lt).trans h.c13,(hb.cell (p:=⟨gp,15,none⟩) h.lt).trans h.c15,h.ri.later hb,Tr.aM.later h.ti hb,h.ro.later hb,Tr.aM.later h.eM hb,h.rc.later hb⟩
def ajV (gp:Nat)(IA:z_)(ni ic:Nat)(DA:z_)(no dc:Nat)(CA:z_)(cn cc:Nat)(RA:z_)(rn rc:Nat)(E:u_)(B0:Nat)(res:tE (v_)):Nat->rQ->Value->Prop
 | 0,_,v=>v=aw gp
 | 1,_,v=>v=aw gp
 | 2,_,v=>v=bc gp 13
 | 3,_,v=>v=.slice IA ni ic
 | 4,_,v=>v=aw gp
 | 5,_,v=>v=aw gp
 | 6,_,v=>v=bc gp 15
 | 7,_,v=>v=.slice DA no dc
 | 8,w,v=>∃gB:Nat,v=aL gB 2 2/\aB w gB 23 #[.slice IA ni ic,.slice DA no dc]
 | 9,w,v=>∃v7:Value,v=v7/\uK w B0 v7 E
 | 10,_,v=>v=.slice CA cn cc
 | 11,_,v=>v=.slice RA rn rc
 | 12,w,v=>∃x0 x1:Value,v=.tuple #[x0,x1]/\nM res w B0 x0 x1
 | 13,w,v=>∃x0 x1:Value,v=.tuple #[x0,x1]/\nM res w B0 x0 x1
 | 14,w,v=>∃x0 x1:Value,v=x0/\nM res w B0 x0 x1
 | 15,_,v=>v=af (ny res)
 | 16,w,v=>∃x0 x1:Value,v=x0/\nM res w B0 x0 x1
 | _,_,_=>False
theorem Rw (gp:Nat)(IA:z_)(ni ic:Nat)(DA:z_)(no dc:Nat)(CA:z_)(cn cc:Nat)(RA:z_)(rn rc:Nat)(E:u_)(B0:Nat)(res:tE (v_)):∀i w w' v,ajV gp IA ni ic DA no dc CA cn cc RA rn rc E B0 res i w v->ai w w'->ajV gp IA ni ic DA no dc CA cn cc RA rn rc E B0 res i w' v:=by
 intro i w w' v h hl
 match i with
 | 0 | 1 | 2 | 3 | 4 | 5 | 6 | 7 | 10 | 11 | 15=>exact h
 | 8=>exact ZfP
 | 9=>obtain⟨v7,h1,f0⟩:=h;exact⟨v7,h1,f0.later hl⟩
 | 12=>exact ZbV
 | 13=>exact ZbV
 | 14=>exact ZbV
 | 16=>exact ZbV
 | n+17=>exact h
def ajW (gp:Nat)(IA:z_)(ni ic:Nat)(XA:z_)(xn xc B0:Nat):Nat->rQ->Value->Prop
 | 0,_,v=>v=.slice XA xn xc
 | 1,_,v=>v=aw gp
 | 2,_,v=>v=aw gp
 | 3,_,v=>v=bc gp 13
 | 4,_,v=>v=.slice IA ni ic
 | 5,_,v=>v=af ni
 | 6,_,v=>v=aw gp
 | 7,_,v=>v=aw gp
 | 8,_,v=>v=bc gp 13
 | 9,_,v=>v=.slice IA ni ic
 | 10,_,v=>v=af ni
 | 11,_,v=>v=.slice XA ni ni
 | 12,_,v=>v=.slice XA xn xc
 | 13,_,v=>v=aw gp
 | 14,_,v=>v=aw gp
 | 15,_,v=>v=bc gp 13
 | 16,_,v=>v=.slice IA ni ic
 | 17,_,v=>v=af ni
 | 18,_,v=>v=.slice (fj XA xc ni) (xn - ni) (xc - ni)
 | 19,_,v=>v=.agg #[.slice XA ni ni,.slice (fj XA xc ni) (xn - ni) (xc - ni)]
 | 20,w,v=>∃gx:Nat,v=aw gx/\aB w gx 91 #[ay,ay]/\B0<=gx
 | _,_,_=>False
theorem Rx (gp:Nat)(IA:z_)(ni ic:Nat)(XA:z_)(xn xc B0:Nat):∀i w w' v,ajW gp IA ni ic XA xn xc B0 i w v->ai w w'->ajW gp IA ni ic XA xn xc B0 i w' v:=by
 intro i w w' v h hl
 match i with
 | 0 | 1 | 2 | 3 | 4 | 5 | 6 | 7 | 8 | 9 | 10 | 11 | 12 | 13 | 14 | 15 | 16 | 17 | 18 | 19=>exact h
 | 20=>obtain⟨gx,h1,f0,f1⟩:=h;exact⟨gx,h1,f0.later hl,f1⟩
 | n+21=>exact h
def ajX (gb:Nat)(le:Int):Nat->rQ->Value->Prop
 | 0,_,v=>v=.agg #[ay,ay,af 0]
 | 1,_,v=>v=aw gb
 | 2,_,v=>v=af le
 | 3,_,v=>v=undef
 | 4,_,v=>v=af le
 | _,_,_=>False
theorem Ry (gb:Nat)(le:Int):∀i w w' v,ajX gb le i w v->ai w w'->ajX gb le i w' v:=by exact Zgv
variable{g:Nat}{t:TypeId}{b:Value}
theorem pO{a c:Value}(h:aB w g t #[a,b,c]):ai w (((w.setCell ⟨g,0,none⟩ a).setCell ⟨g,1,none⟩ b).setCell ⟨g,2,none⟩ c):=by
 have h2:aB (((w.setCell ⟨g,0,none⟩ a).setCell ⟨g,1,none⟩ b).setCell ⟨g,2,none⟩ c) g t #[a,b,c]:=((h.aT 0 a).aT 1 b).aT 2 c;refine⟨rfl,rfl,rfl,by simp,λ k hk=>?_⟩;by_cases e:k=g
 ·subst e;exact(show _=_ from h2).trans (show _=_ from h).symm
 ·rw[Below.heap_setCell _ ⟨g,2,none⟩ _ k e,Below.heap_setCell _ ⟨g,1,none⟩ _ k e,Below.heap_setCell _ ⟨g,0,none⟩ _ k e]
theorem zdE.KaK(h:p:=by exact Kz (w':=((w3.setCell ⟨g6,0,none⟩ (ay)).setCell ⟨g6,1,none⟩ (ay)).setCell ⟨g6,2,none⟩ (af 0)) (by simp[go_sem,h0,h1,z0,z1,x2,f0,f1,f2];done) ⟨pO HX,rfl⟩):p:=h
theorem zhf.Kb4(h:p:=by
 have aqK:=aa (show∀x∈dM,jf W3 x.1/\cM W3 x.2.A x.2.l/\x.1.l.length<=1000/\x.2.l.length=order.length from λ x hX=>by obtain⟨f1,f2,q3⟩:=ajY.ae x hX;exact⟨f1.later hL,f2.later hL,q3⟩);have aqL:=aa (uH.ae.later hL);have QD:=aa agO;have HNX:=aa (show u13.ownBlock≠some js from λ e=>by have h1:=(Al.ae.lt e).1;have h2:=U7;have h3:=eX.ae;omega);have HGL:=aa (show w.heap.size<=js from Nat.le_trans uY.ae.size (by rw[<- eX.ae];exact U7));clear hL uY Al P5 ajY uH agO U7 eX HEW;have gx0:=QD.ae.cell 0;have gx1:=QD.ae.cell 1;have gf0:=QD.ae.frozen 0;have gf1:=QD.ae.frozen 1;simp only[Uaa] at gx0 gx1;go_upto_region 23 with fail;clear gx0 gx1 gf0 gf1;have g7:W3.grownBy ((W3.setCell ⟨js,0,none⟩ (.slice XA ni ni)).setCell ⟨js,1,none⟩ (.slice (fj XA xc ni) (xn - ni) (xc - ni))) (some js):=aG (aG (aO (Below.refl _ _)) _ _) _ _;have TA:=aa (show aB ((W3.setCell ⟨js,0,none⟩ (.slice XA ni ni)).setCell ⟨js,1,none⟩ (.slice (fj XA xc ni) (xn - ni) (xc - ni))) js 91 #[.slice XA ni ni,.slice (fj XA xc ni) (xn - ni) (xc - ni)] from(QD.ae.aT 0 _).aT 1 _);generalize (W3.setCell ⟨js,0,none⟩ (.slice XA ni ni)).setCell ⟨js,1,none⟩ (.slice (fj XA xc ni) (xn - ni) (xc - ni))=W7 at*;have gw:∀ {A:z_} {l:v_},cM W3 A l->cM W7 A l:=λ h=>h.keep g7.size λ b cur hc=>g7.block b hc.lt λ e=>by injection e with e;subst e;exact kX hc QD.ae V0 rfl
 have Gr:=aa (dS Mt.ae g7 HGL.ae);have wN:=aa (MD.ae.grown g7 HNX.ae);have EL:=aa (Ei.ae.grown g7 (λ e=>by injection e with e;exact kX Ei.ae QD.ae V0 e));have Xb:=aa (show∀x∈dM,jf W7 x.1/\cM W7 x.2.A x.2.l/\x.1.l.length<=1000/\x.2.l.length=order.length from λ x hX=>by obtain⟨f1,f2,q3⟩:=aqK.ae x hX;exact⟨f1.map gw,gw f2,q3⟩);have aef:=aa (gw aqL.ae);have aqM:=aa (nI.ae.later Gr.ae);have c13:=aqM.ae.c13;rw[<- je.ae] at c13;have HDL:=aa (show(l.drop ni).length=xn - ni by rw[length_drop,oF.ae]);have qA:=aa (show(l.take ni).length=ni by rw[length_take];have:=xX.ae;have:=oF.ae;omega);have XS:=aa (show(l.drop ni).length=order.length by rw[length_drop,Lw.ae,HYO.ae];omega);clear g7 gw Mt MD Ei aqK aqL QD;have awZ:=HNX;clear HNX;by_cases hz:ni=0
 ·have t3:((ni:Int)==0)=true:=by simp[hz]
  have HIT:=aa (show items=[] from eq_nil_of_length_eq_zero (by rw[HYI.ae,hz]));have HZ:=aa hz;clear hz;go_wp2_with fail;clear c13;refine(Cx r.A r.c r.l W7 ((awW.ae.below Gr.ae).more Gr.ae.size) QQ.ae.1).mono ?_;rintro e w8 ⟨rv,rfl,uW,b8⟩;obtain⟨RA2,rc2,axa,aqN,hk2⟩:=Jn uW;have axb:=aa aqN;clear aqN;subst axa;have hx8:=TA.ae.later b8;have z0:=hx8.cell 0;have f0:=hx8.frozen 0;simp only[Uaa] at z0;go_upto_region 25 with fail;clear z0 f0;have g9:W7.grownBy (w8.setCell ⟨js,0,none⟩ (.slice RA2 r.l.length rc2)) (some js):=aG (aO b8) _ _;have pM:aB (w8.setCell ⟨js,0,none⟩ (.slice RA2 r.l.length rc2)) js 91 #[.slice RA2 r.l.length rc2,.slice (fj XA xc ni) (xn - ni) (xc - ni)]:=hx8.aT 0 _;have hk9:cM (w8.setCell ⟨js,0,none⟩ (.slice RA2 r.l.length rc2)) RA2 r.l:=hk2.keep (by rw[World.size_setCell];exact Nat.le_refl _) λ b cur hc=>Below.heap_setCell _ ⟨js,0,none⟩ _ b λ e=>by have e:b=js:=e;subst e;exact kX hc hx8 V0 rfl
  have XW:u13.ownBlock≠some js:=awZ.ae;generalize w8.setCell ⟨js,0,none⟩ (.slice RA2 r.l.length rc2)=W9 at*;have gw:∀ {A:z_} {l:v_},cM W7 A l->cM W9 A l:=λ h=>h.keep g9.size λ b cur hc=>g9.block b hc.lt λ e=>by injection e with e;subst e;exact kX hc TA.ae V0 rfl
  have Gr:=aa (dS Gr.ae g9 HGL.ae);have wN:=aa (wN.ae.grown g9 XW);have EL:=aa (EL.ae.grown g9 (λ e=>by injection e with e;exact kX EL.ae TA.ae V0 e));have Xb:=aa (show∀x∈dM,jf W9 x.1/\cM W9 x.2.A x.2.l/\x.1.l.length<=1000/\x.2.l.length=order.length from λ x hX=>by obtain⟨f1,f2,q3⟩:=Xb.ae x hX;exact⟨f1.map gw,gw f2,q3⟩);obtain⟨nl,hnl⟩:∃nl:aX×aX,nl=(⟨RA2,r.l,rc2⟩,⟨fj XA xc ni,l.drop ni,xc - ni⟩):=⟨_,rfl⟩;have HNL:=aa (show(fc nl).toArray= #[.slice RA2 r.l.length rc2,.slice (fj XA xc ni) (xn - ni) (xc - ni)] by rw[hnl];unfold fc;dsimp only;rw[HDL.ae]);have Qp:=aa (show Nr nl=⟨if items=[] then r.l else l.take items.length,l.drop items.length⟩ by rw[hnl,if_pos HIT.ae,HYI.ae];rfl);have HN8:=aa (show jf W9 nl.1/\cM W9 nl.2.A nl.2.l/\nl.1.l.length<=1000/\nl.2.l.length=order.length by
   rw[hnl]
   exact⟨⟨hk9,axb.ae⟩,(gw aef.ae).drop ni xc Rf.ae,QQ.ae.1,XS.ae⟩)
  have z0:=pM.cell 0;have z1:=pM.cell 1;simp only[Uaa] at z0 z1;clear hnl hk9 pM hx8 hk2 uW b8 g9 XW gw TA aef aqM;have bN:=ah W9 (.cells #[.slice RA2 r.l.length rc2,.slice (fj XA xc ni) (xn - ni) (xc - ni)] 91);have hG:=aB.new W9 91 #[.slice RA2 r.l.length rc2,.slice (fj XA xc ni) (xn - ni) (xc - ni)];have mI:=aa (wN.ae.later bN);have JC:=aa (EL.ae.later bN);have Rh:=aa (Below.trans Gr.ae (bN.mono Gr.ae.size));have akb:=aa (show∀x∈dM,jf _ x.1/\cM _ x.2.A x.2.l/\x.1.l.length<=1000/\x.2.l.length=order.length from λ x hX=>by obtain⟨f1,f2,q3⟩:=Xb.ae x hX;exact⟨f1.later bN,f2.later bN,q3⟩);have HN1:=aa (HN8.ae.1.later bN);have HN2:=aa (HN8.ae.2.1.later bN);have zv:=aa hG;have hbase:=Rh.ae.size;have hlk:=zZ.ae;clear bN hG wN EL Gr Xb;go_wp2_with (first
   |(at_builtin
     refine aS (f:=fc) rfl (.tmp 133) (.tmp 135) 85 rfl _ 48 Tryz.underlying85 TV rfl TD nl rfl (by simp[fc,Value.oneCell']) rfl mI.ae W9.heap.size rfl (by rw[HNL.ae];exact zv.ae) TD TD hbase ?_
     intro v4 w4 o4 g4
     have O4:=aa o4
     have B4:=aa (JC.ae.jr mI.ae V0 g4)
     have RW4:=aa (show∀x∈dM,jf w4 x.1/\cM w4 x.2.A x.2.l/\x.1.l.length<=1000/\x.2.l.length=order.length from λ x hX=>by obtain⟨f1,f2,q3⟩:=akb.ae x hX;exact⟨f1.own mI.ae V0 g4,f2.own mI.ae V0 g4,q3⟩)
     have N41:=aa (HN1.ae.own mI.ae V0 g4)
     have N42:=aa (HN2.ae.own mI.ae V0 g4)
     have Ly:=aa (Below.trans Rh.ae (bj mI.ae g4 hbase))
     clear o4 g4))
  exact ZbR
 ·have t3:((ni:Int)==0)=false:=by simp[hz]
  have HIT:=aa (show items≠ [] from λ e=>hz (by rw[<- HYI.ae,e];rfl));clear hz;obtain⟨nl,hnl⟩:∃nl:aX×aX,nl=(⟨XA,l.take ni,ni⟩,⟨fj XA xc ni,l.drop ni,xc - ni⟩):=⟨_,rfl⟩;have HNL:=aa (show(fc nl).toArray= #[.slice XA ni ni,.slice (fj XA xc ni) (xn - ni) (xc - ni)] by rw[hnl];unfold fc;dsimp only;rw[qA.ae,HDL.ae]);have Qp:=aa (show Nr nl=⟨if items=[] then r.l else l.take items.length,l.drop items.length⟩ by rw[hnl,if_neg HIT.ae,HYI.ae];rfl);have HN8:=aa (show jf W7 nl.1/\cM W7 nl.2.A nl.2.l/\nl.1.l.length<=1000/\nl.2.l.length=order.length by
   rw[hnl]
   exact⟨⟨aef.ae.take ni,by show(l.take ni).length<=ni;rw[length_take];omega⟩,aef.ae.drop ni xc Rf.ae,by show(l.take ni).length<=1000;rw[qA.ae,<- HYI.ae];exact Yi.ae HIT.ae,XS.ae⟩)
  have z0:=TA.ae.cell 0;have z1:=TA.ae.cell 1;simp only[Uaa] at z0 z1;clear hnl;go_upto_region 25 with fail
  clear c13;have bN:=ah W7 (.cells #[.slice XA ni ni,.slice (fj XA xc ni) (xn - ni) (xc - ni)] 91);have hG:=aB.new W7 91 #[.slice XA ni ni,.slice (fj XA xc ni) (xn - ni) (xc - ni)];have mI:=aa (wN.ae.later bN);have JC:=aa (EL.ae.later bN);have Rh:=aa (Below.trans Gr.ae (bN.mono Gr.ae.size));have akb:=aa (show∀x∈dM,jf _ x.1/\cM _ x.2.A x.2.l/\x.1.l.length<=1000/\x.2.l.length=order.length from λ x hX=>by obtain⟨f1,f2,q3⟩:=Xb.ae x hX;exact⟨f1.later bN,f2.later bN,q3⟩);have HN1:=aa (HN8.ae.1.later bN);have HN2:=aa (HN8.ae.2.1.later bN);have zv:=aa hG;have hbase:=Rh.ae.size;have hlk:=zZ.ae;clear bN hG wN EL Gr Xb;go_wp2_with (first
   |(at_builtin
     refine aS (f:=fc) rfl (.tmp 133) (.tmp 135) 85 rfl _ 48 Tryz.underlying85 TV rfl TD nl rfl (by simp[fc,Value.oneCell']) rfl mI.ae W7.heap.size rfl (by rw[HNL.ae];exact zv.ae) TD TD hbase ?_
     intro v4 w4 o4 g4
     have O4:=aa o4
     have B4:=aa (JC.ae.jr mI.ae V0 g4)
     have RW4:=aa (show∀x∈dM,jf w4 x.1/\cM w4 x.2.A x.2.l/\x.1.l.length<=1000/\x.2.l.length=order.length from λ x hX=>by obtain⟨f1,f2,q3⟩:=akb.ae x hX;exact⟨f1.own mI.ae V0 g4,f2.own mI.ae V0 g4,q3⟩)
     have N41:=aa (HN1.ae.own mI.ae V0 g4)
     have N42:=aa (HN2.ae.own mI.ae V0 g4)
     have Ly:=aa (Below.trans Rh.ae (bj mI.ae g4 hbase))
     clear o4 g4))
  exact ZbR):p:=h
theorem zhB.Kcc(h:p:=by
 have hln:l.length=ni+no:=by rw[hlen,length_append,HYI.ae,HYO.ae]
 have Lw:=aa hln;have xX:=aa (show ni<=l.length by omega);have HXC:=aa (show ni<=xc by omega);have Rf:=aa hxl;have HEW:=aa (nI.ae.later uY.ae);obtain⟨xn,Ae⟩:∃xn,xn=l.length:=⟨_,rfl⟩;rw[<- Ae] at xX ⊢;have oF:=aa Ae;obtain⟨B1,KC⟩:∃B1,B1=w5.heap.size:=⟨_,rfl⟩;have eX:=aa KC;clear K7 hln hxl Ae KK hlen KC;go_upto_region 22 with fail;refine bz 21 (ajW gp IA ni ic XA xn xc B1) (Rx _ _ _ _ _ _ _ _) WC WC WC ?_ ?_
 ·simp only[take_succ_cons,take_zero];refine⟨Zaa,Zaa,Zaa,Zaa,ZdV,Zaa,Zaa,Zaa,Zaa,ZdV,Zaa,?_,Zaa,Zaa,Zaa,Zaa,ZdV,Zaa,?_,ZdQ,?_,trivial⟩
  ·intro ρ w3 hc hL hr;have h0:_=_:=hr.1;have h1:_=_:=hr.2.1;have h2:_=_:=hr.2.2.1;have hs:=Gj XA xn xc ni ni (Nat.le_refl _) HXC.ae w3;exact ZgJ
  ·intro ρ w3 hc hL hr;have h0:_=_:=hr.1;have h1:_=_:=hr.2.1;have hs:=sP XA xn xc ni xX.ae w3;exact ZcH
  ·intro ρ w3 hc hL hr;exact aq (v:=aw w3.heap.size) (w':=w3.alloc (.cells #[ay,ay] 91)) Tbm ⟨ah _ _,_,rfl,aB.new _ _ _,by rw[eX.ae];exact hL.size⟩
 intro W3 hL;simp only[Uab];rintro a0 - a1 - a2 - a3 - a4 - a5 - a6 - a7 - a8 - a9 - FI - L9 - a12 - a13 - a14 - a15 - a16 - a17 - a18 - _ rfl a20 ⟨js,rfl,agO,U7⟩;open zhf in exact ZfG):p:=h
theorem zfX.Kby(h:p:=by
 go_wp2_with fail;go_loopw [13,81] (λ lv i wr=>∃(k:Nat) (dM:List (aX×aX)),k<=zs.length/\i=af k/\aH fc 91 2 wr w.heap.size lv dM/\(∀x∈dM,jf wr x.1/\cM wr x.2.A x.2.l/\x.1.l.length<=1000/\x.2.l.length=order.length)/\dM.map Nr=wV items order over (zs.take k)/\dM.length<=k/\aB wr gb 84 #[af (ee over (items++order) (zs.take k))]/\aj w wr) (λ _ i _=>zs.length - (intOf i).toNat);case atStart=>exact⟨0,[],Nat.zero_le _,rfl,aH.nil,(λ x hX=>by cases hX),rfl,Nat.le_refl _,P0.ae,eX.ae⟩
 case round=>
  clear eX P0;obtain⟨k,dM,hkr,rfl,Yj,hRW,hLS,Ii,hGB,hB⟩:=hrel;have Km:=aa Yj;have IV:=aa hRW;have HP:=aa hLS;have zZ:=aa Ii;have wK:=aa hGB;have HB:=aa hB;have hk9:k<=301:=by have:=HLEN.ae;omega
  clear Yj hRW hLS Ii hGB hB;by_cases hlt:k < zs.length
  ·obtain⟨b,off,rfl,kM,hcell,uW⟩:=(HFN.ae.below HB.ae).at_ hlt;have Bq:=aa (uW.more HB.ae.size);have QQ:=aa (ajn.ae zs[k] (getElem_mem hlt));have awW:=aa (show RV w w.heap.size zs[k].A zs[k].l from by obtain⟨_,_,_,_,_,h⟩:=HFN.ae.at_ hlt;exact h);have P3:=aa (Dj (cols:=over) (ts:=items++order) hlt).2;have AW:=aa (WZ (items:=items) (order:=order) (over:=over) hlt);generalize zs[k]=r at*;generalize ee over (items++order) (zs.take k)=FK at*;generalize wV items order over (zs.take k)=ls at*;obtain⟨res,hres⟩:∃res,res=br over r.l (items++order):=⟨_,rfl⟩;rw[<- hres] at P3;have jR:=aa hres.symm;have oM:=aa (nI.ae.later HB.ae);obtain⟨E,hE⟩:∃E,E=yi++yo:=⟨_,rfl⟩;have pV:=aa hE;obtain⟨B0,hB0⟩:∃B0,B0=wr.heap.size:=⟨_,rfl⟩;have BN:=aa hB0;clear kM uW hres hE hB0;go_upto_region 20 with fail;clear hcell;refine bz 17 (ajV gp IA ni ic DA no dc OA over.length oc r.A r.l.length r.c E B0 res) (Rw _ _ _ _ _ _ _ _ _ _ _ _ _ _ _ _) WC WC WC ?_ ?_
   ·simp only[take_succ_cons,take_zero];refine⟨Zaa,Zaa,Zaa,?_,Zaa,Zaa,Zaa,?_,?_,?_,Zaa,Zaa,?_,?_,?_,?_,?_,trivial⟩
    ·intro ρ w3 hc hL hr;have h0:_=_:=hr.1;have c0:=(oM.ae.later hL).c13;exact ZbK
    ·intro ρ w3 hc hL hr;have h0:_=_:=hr.1;have c0:=(oM.ae.later hL).c15;exact aq (w':=w3) (by simp[go_sem,h0,c0,<- HNO.ae];done) ⟨ai.refl _,rfl⟩
    ·intro ρ w3 hc hL hr;have h0:_=_:=hr.1;have h1:_=_:=hr.2.1;exact aq (v:=aL w3.heap.size 2 2) (w':=w3.alloc (.cells #[.slice IA ni ic,.slice DA no dc] 23)) Tax ⟨ah _ _,_,rfl,aB.new _ _ _⟩
    ·intro ρ w3 hc hL hr;obtain⟨gB0,h0,cN⟩:∃gB:Nat,ρ (.tmp 94)=aL gB 2 2/\aB w3 gB 23 #[.slice IA ni ic,.slice DA no dc]:=hr.1;have e1:=hc.func 35;refine bp (f:=35) (args:= #[aL gB0 2 2]) (w':=w3) Tay ?_;refine(uy (some ⟨gB0,0,none⟩) 2 [⟨IA,ic,yi⟩,⟨DA,dc,yo⟩] w3 Taa (by simpa [lF] using NZ.ae) ?_).mono ?_
     ·refine⟨gB0,0,rfl,cN.lt,λ i x hX=>?_⟩
      match i,hX with
      | 0,hX=>simp at hX;subst hX;refine⟨?_,(oM.ae.later hL).ri⟩;exact Zfq
      | 1,hX=>simp at hX;subst hX;refine⟨?_,(oM.ae.later hL).ro⟩;have cb:=cN.cell 1;simp only[Uaa] at cb;rw[Nat.zero_add,cb,HNO.ae]
      | n+2,hX=>simp at hX
     ·exact ZdO
    ·intro ρ w3 hc hL hr;obtain⟨v70,h0,cN⟩:∃v7:Value,ρ (.tmp 95)=v7/\uK w3 B0 v7 E:=hr.1;have h1:_=_:=hr.2.1;have h2:_=_:=hr.2.2.1;obtain⟨EA,ec,he,Gx⟩:=rL (show aH bD 46 7 w3 B0 v70 E from cN);rw[pV.ae] at he Gx;subst he;have e1:=hc.func 34;refine bp (f:=34) (args:= #[.slice EA (yi++yo).length ec,.slice OA over.length oc,.slice r.A r.l.length r.c]) (w':=w3) (by simp[go_sem,e1,h0,h1,h2];done) ?_;refine(Gm over OA oc r.l r.A r.c (items++order) (yi++yo) EA ec w3 L8.ae (by have:=QQ.ae.1;omega) QQ.ae.2 adC.ae (Tr.all_append (oM.ae.later hL).ti (oM.ae.later hL).eM) LE.ae Gx (oM.ae.later hL).rc (Bq.ae.later hL)).mono ?_;exact ZcC
    ·intro ρ w3 hc hL hr;obtain⟨WG,WH,h0,cN⟩:∃x0 x1:Value,ρ (.tmp 98)=.tuple #[x0,x1]/\nM res w3 B0 x0 x1:=hr.1;exact ZfT
    ·intro ρ w3 hc hL hr;obtain⟨WG,WH,h0,cN⟩:∃x0 x1:Value,ρ (.tmp 85)=.tuple #[x0,x1]/\nM res w3 B0 x0 x1:=hr.1;exact ZcY
    ·intro ρ w3 hc hL hr;obtain⟨WG,WH,h0,cN⟩:∃x0 x1:Value,ρ (.tmp 85)=.tuple #[x0,x1]/\nM res w3 B0 x0 x1:=hr.1;exact Zf4
    ·intro ρ w3 hc hL hr;obtain⟨WG,WH,h0,cN⟩:∃x0 x1:Value,ρ (.tmp 99)=x0/\nM res w3 B0 x0 x1:=hr.1;exact ZcY
   intro W5 hL;simp only[Uab];rintro a0 - a1 - a2 - a3 - a4 - a5 - a6 - a7 - a8 - a9 - FI - L9 - a12 - a13 - a14 - _ rfl a16 ⟨aAJ,aAK,rfl,agN⟩;simp only[bA,Act.put,Uac];have tz:=aa (Below.trans HB.ae (hL.mono HB.ae.size));have Ap:=aa (wK.ae.later hL);have Rc:=aa (Km.ae.later hL);have aqJ:=aa (show∀x∈dM,jf W5 x.1/\cM W5 x.2.A x.2.l/\x.1.l.length<=1000/\x.2.l.length=order.length from λ x hX=>by obtain⟨f1,f2,q3⟩:=IV.ae x hX;exact⟨f1.later hL,f2.later hL,q3⟩);have awX:=aa (Bq.ae.later hL);have HWB:=aa agN;have HBL:=aa (show w.heap.size<=B0 by rw[BN.ae];exact HB.ae.size);clear HB wK Km IV hL agN Bq oM BN;go_wp2_with fail;refine(vT gb FK (ny res) _ Ap.ae).mono ?_;rintro e w5 ⟨rfl,IC,Jj⟩;have Re:=aa IC;have uY:=aa (dS tz.ae Jj (by rw[mH.ae];exact Nat.le_refl _));have Al:=aa (Rc.ae.grown Jj (Rc.ae.other Ap.ae V0));have gw:∀ {A:z_} {l:v_},cM W5 A l->cM w5 A l:=λ h=>h.keep Jj.size λ b cur hc=>Jj.block b hc.lt λ e=>by injection e with e;subst e;exact kX hc Ap.ae V0 rfl
   have ajY:=aa (show∀x∈dM,jf w5 x.1/\cM w5 x.2.A x.2.l/\x.1.l.length<=1000/\x.2.l.length=order.length from λ x hX=>by obtain⟨f1,f2,q3⟩:=aqJ.ae x hX;exact⟨f1.map gw,gw f2,q3⟩);have AO:=aa (show∀l,res=.ok l->aH aU 44 3 w5 B0 a16 l from λ l hl=>by
    have h1:=HWB.ae
    rw[hl] at h1
    exact h1.2.grown Jj (h1.2.other Ap.ae V0))
   clear IC Jj tz Ap Rc aqJ HWB gw awX
   cases res with
   | error er=>
     have hne:=GC jR.ae;have t1:(ny (.error er)==0)=false:=by show(er==0)=false;simp[hne]
     have TC:=aa P3.ae;have yG:=aa (show uq (DD items order over r.l)=none by unfold DD;rw[jR.ae];rfl);clear hne AO;go_wp2_with fail;go_roundw
     case rel=>
      refine⟨k+1,dM,hlt,by go_num,Al.ae,ajY.ae,?_,Nat.le_succ_of_le zZ.ae,?_,uY.ae⟩
      ·rw[AW.ae,yG.ae];simpa using HP.ae
      ·rw[TC.ae];exact Re.ae
     case measure=>exact ZaU
   | ok l=>have TC:=aa (show ee over (items++order) (zs.take (k+1))=jw FK 0 from P3.ae);have yG:=aa (show uq (DD items order over r.l)=some ⟨if items=[] then r.l else l.take items.length,l.drop items.length⟩ by unfold DD;rw[jR.ae];rfl);have hlen:=Di jR.ae;open zhB in exact Zgc
  ·have gw:k=zs.length:=by omega
   subst gw;have HTT:=aa (show zs.take zs.length=zs from take_length);rw[HTT.ae] at HP wK;obtain⟨LA,lc,hlv,_⟩:=Km.ae.reads;subst hlv;go_wp2_with fail;refine IY.ae _ _ ?_;clear IY;refine wp_seq_k λ K3 hK3=>?_
   have CW:=aa hK3;clear hK3;have d0:=wK.ae.cell 0;simp only[getElem?_toArray,getElem?_cons_zero] at d0;obtain⟨le,hle⟩:∃le,le=ee over (items++order) zs:=⟨_,rfl⟩;rw[<- hle] at d0;have aei:=aa hle;clear hle;by_cases hz:le=0
   ·have t1:(le != 0)=false:=by simp[hz]
    have HZ:=aa (show ee over (items++order) zs=0 by rw[<- aei.ae];exact hz);clear hz;go_wp2_with fail;exact CW.ae _ _ (ajS.ae HZ.ae _ _ LA lc dM rfl rfl rfl rfl rfl HB.ae Km.ae IV.ae HP.ae zZ.ae)
   ·have t1:(le != 0)=true:=by simp[hz]
    have HZ:=aa (show ee over (items++order) zs≠0 by rw[<- aei.ae];exact hz);have fK:aB wr g6 33 #[ay,ay,af 0]:=GZ.ae.later HB.ae;have Rv:=aa fK;have HK:=aa (show aB wr gb 84 #[af le] by rw[aei.ae];exact wK.ae);clear hz fK;go_upto_region 28 with fail;clear d0;refine bz 4 (ajX gb le) (Ry _ _) WC WC WC ?_ ?_
    ·simp only[take_succ_cons,take_zero];refine⟨ZfZ,Zaa,Zbj,?_,trivial⟩
     ·intro ρ w3 hc hL hr;have h0:_=_:=hr.1;have h1:_=_:=hr.2.1;have HX:=Rv.ae.later hL;open zdE in exact ZbF
    intro W6 hL;simp only[Uab];rintro _ rfl _ rfl _ rfl;simp only[bA,Act.put,Uac];have fK:aB W6 g6 33 #[ay,ay,af 0]:=Rv.ae.later hL;have bJ:w.grownBy W6 (some g6):=aO (Below.trans HB.ae (hL.mono HB.ae.size));go_wp2_with fail;refine HE.ae HZ.ae _ _ rfl rfl ?_ fK bJ;rw[<- aei.ae];rfl):p:=h
theorem zhN.Kci(h:p:=by
 obtain⟨ni,hni⟩:∃ni,ni=yi.length:=⟨_,rfl⟩;obtain⟨no,hno⟩:∃no,no=yo.length:=⟨_,rfl⟩;have je:=aa hni;have HNO:=aa hno;have hyi:=dZ Ra.ti;have hyo:=dZ Ra.eM;have HYI:=aa (show items.length=ni by rw[hyi,hni]);have HYO:=aa (show order.length=no by rw[hyo,hno]);have NZ:=aa (show yi.length+yo.length<=1000000 by omega);have LE:=aa (show(yi++yo).length<=1599289640356 by rw[length_append];omega);clear hh hE hO Ra JB TX Wy NT Gu TY Rb lX fK hni hno hyi hyo;simp only[eE,eZ,Tryz.f11,Option.getD_some];refine wp_seq_k λ K0 hK=>?_
 have Ed:=aa hK;clear hK;go_wp2_with fail;refine Ed.ae _ _ ?_;clear Ed;have b1:=ah w (.cells #[af 0] 84);have k1:=aB.new w 84 #[af 0];have eX:=aa b1;have P0:=aa k1;clear b1 k1;obtain⟨gb,Ia⟩:∃gb,gb=w.heap.size:=⟨_,rfl⟩;have mH:=aa Ia;rw[<- Ia] at P0 ⊢;generalize w.alloc (.cells #[af 0] 84)=W1 at*;open zfX in exact Zd7):p:=h
theorem Xa (w0:rQ)(gp g3 g6:Nat)(items order:uF)(over:List aV)(yi yo:u_)(IA:z_)(ic:Nat)(DA:z_)(dc:Nat)(OA:z_)(oc:Nat)(zs:List aX)(EA0:z_)(ec0:Nat)(T:x_)(hT:T.size=183)
  (h3:T.getD 3 undef=aw g3) (h6:T.getD 6 undef=aw g6) (h8:T.getD 8 undef=aw gp) (h10:T.getD 10 undef=.slice EA0 zs.length ec0) (h11:T.getD 11 undef=.slice OA over.length oc) (d:List Deferred) (w:rQ) (Q:yD)
  (Ra:Nt w gp items order over yi yo IA ic DA dc OA) (JB:Tr.cH (items++order)) (TX:items.length<=100000) (Wy:order.length<=1000000 - 100000) (NT:over.length<=140737488355328) (Gu:items≠ []->items.length<=1000)
  (TY:RR w w.heap.size EA0 zs) (Rb:zs.length<=301) (lX:∀r∈zs,r.l.length<=1000/\∀v∈r.l,v.Ok) (fK:aB w g6 33 #[ay,ay,af 0])
  (hE:ee over (items++order) zs≠0->∀a W,a.defers=d->a.tmps.getD 6 undef=aw g6->a.tmps.getD 7 undef=af (ee over (items++order) zs)->aB W g6 33 #[ay,ay,af 0]->w.grownBy W (some g6)->Q .ret a W)
  (hO:ee over (items++order) zs=0->∀(T':x_) W LA lc (dM:List (aX×aX)),T'.size=183->T'.getD 3 undef=aw g3->T'.getD 6 undef=aw g6->T'.getD 8 undef=aw gp->T'.getD 13 undef=.slice LA dM.length lc->aj w W->aH fc 91 2 W w.heap.size (.slice LA dM.length lc) dM->(∀x∈dM,jf W x.1/\cM W x.2.A x.2.l/\x.1.l.length<=1000/\x.2.l.length=order.length)->dM.map Nr=wV items order over zs->dM.length<=zs.length->(eZ eE 12).wp Tryz.prog Q { tmps:=T',defers:=d } W):
  (eZ eE 8).wp Tryz.prog Q { tmps:=T,defers:=d } w:=by
 obtain⟨f,rfl⟩:=yH T hT;have h3:f 3=_:=h3;have h6:f 6=_:=h6;have h8:f 8=_:=h8;have h10:f 10=_:=h10;have h11:f 11=_:=h11;simp only[Yp,h3,h6,h8,h10,h11];clear h3 h6 h8 h10 h11;clear h3 h6 h8 h10 h11 hT;have hh:=λ h0 (T':x_) W LA lc dM a0 a1 a2 a3 a4 a5 a6 a7 a8 a9=>hO h0 T' W LA lc dM a0 a1 a2 a3 a4 a5 a6 a7 a8 a9
 simp only[eE,eZ,Tryz.f11,Option.getD_some] at hh;have ajS:=aa hh;open zhN in exact ZgG
structure U8 (t:Tr) (s:dp) (r:tE (Tr×Int×dp)):Prop where
 err:∀e,r=.error e->e≠0
 ok:∀y k s',r=.ok (y,k,s')->t.ok->y.ok
 len:∀y k s',r=.ok (y,k,s')->s'.aF.length+s'.aD.length<=s.aF.length+s.aD.length+2*t.nodes
 aok:∀y k s',r=.ok (y,k,s')->t.ok->Tr.cH s.aD->Tr.cH s'.aD
theorem lL (g:Bool)(aF:uF)(cols:List aV)(t:Tr)(s:dp):U8 t s (mb g aF cols t s):=by
 unfold mb;split
 ·split
  ·rename_i h1 h2;exact Zew
  ·refine⟨λ e h=> Tac,λ y k s' h ht=>?_,λ y k s' h=>?_,λ y k s' h _ ha=>?_⟩;all_goals (injection h with h;injection h with h1 h2;injection h2 with h2 h3)
   ·rw[<- h1];exact ht
   ·rw[<- h3];omega
   ·rw[<- h3];exact ha
 ·have hf:=iT aF cols t s
  cases hr:Tr.turn aF cols t s with
  | error e=>dsimp only;exact⟨λ e2 h=>by injection h with h;rw[<- h];exact hf.err _ hr,λ _ _ _ h=> Tac,λ _ _ _ h=> Tac,λ _ _ _ h=> Tac⟩
  | ok p=>
    obtain⟨y,s'⟩:=p;dsimp only;split
    ·rename_i h2;exact Zew
    ·refine⟨λ e h=> Tac,λ y2 k s2 h ht=>?_,λ y2 k s2 h=>?_,λ y2 k s2 h ht ha=>?_⟩;all_goals (injection h with h;injection h with h1 h2;injection h2 with h2 h3)
     ·rw[<- h1];exact hf.ok _ _ hr ht
     ·rw[<- h3];exact hf.len _ _ hr
     ·rw[<- h3];exact hf.aok _ _ hr ht ha
def tS (l:uF):tE (uF×dp)->tE (uF×dp)
 | .error e=> .error e
 | .ok (ys,s)=> .ok (l++ys,s)
theorem Ha (x:tE (uF×dp)):tS [] x=x:=by exact ZgQ
theorem DF (l:uF)(y:Tr)(x:tE (uF×dp)):tS l (match x with | .error e=> .error e | .ok (ys,s)=> .ok (y::ys,s))=tS (l++ [y]) x:=by
 cases x with
 | error e=>rfl
 | ok p=>obtain⟨ys,s⟩:=p;show Except.ok (l++y::ys,s)=Except.ok ((l++ [y])++ys,s);rw[append_assoc];rfl
variable{ts:uF}
theorem uN(h:k < ts.length):Tr.aN (ts.drop k)=ts[k].nodes+Tr.aN (ts.drop (k+1)):=by rw[drop_eq_getElem_cons h,gO,gO,map_cons,sum_cons]
def qf (a:Act)(d:List Deferred)(g4 g5:Nat):Prop:=a.defers=d/\a.tmps.getD 4 undef=aw g4/\a.tmps.getD 5 undef=aw g5
def wW (w0:rQ)(g4 g5 D:Nat)(w:rQ):Prop:=aj w0 w/\w0.heap.size<=g4/\w0.heap.size<=g5/\g4≠g5/\g4≠D/\g5≠D/\aB w g4 72 #[.pointer none]/\aB w g5 34 #[af 0]/\w.heap[D]?=some (.deferred (some []))
def jt (w:rQ)(g4 g5:Nat)(er:Int):rQ:=(w.setCell ⟨g4,0,none⟩ (.pointer none)).setCell ⟨g5,0,none⟩ (af er)
def jF (w:rQ)(g4 g5 gp:Nat):rQ:=(w.setCell ⟨g4,0,none⟩ (aw gp)).setCell ⟨g5,0,none⟩ (af 0)
variable{w0:rQ}{g2 g4 g5 D:Nat}{qc:x_}{R:Nat->Value}
theorem PlF.U9(h:PlF w0 gp g2 qc g4 g5 D R w):wW w0 g4 g5 D w:=⟨h.base,h.new.1,h.new.2.1,h.new.2.2.1,h.new.2.2.2.1,h.new.2.2.2.2,h.z4,h.z5,h.dd⟩
theorem wW.later(h:wW w0 g4 g5 D w)(hb:aj w w'):wW w0 g4 g5 D w':=by
 obtain⟨h1,h2,h3,h4,h5,h6,h7,h8,h9⟩:=h;refine⟨Below.trans h1 (hb.mono h1.size),h2,h3,h4,h5,h6,h7.later hb,h8.later hb,(hb.block D ?_).trans h9⟩;rcases Nat.lt_or_ge D w.heap.size with h | h
 ·exact h
 ·rw[Array.getElem?_eq_none h] at h9;cases h9
variable{S:Nat->Prop}{y:Ex}
theorem mB{t:Tr} (h:Tr.aM w S [t] [y]):t.at_ w S y:=by unfold Tr.aM at h;obtain⟨y2,ys,e,h1,_⟩:=h;injection e with e _;rw[e];exact h1
variable{u u' v':Value}{ya:u_}{hd:List aV}{yh:u_}{th:uF}
theorem cW.err{c:PC}    {r:Rest} {v:Value}  {s:dp}   {ti eM:uF}(h:cW c w0 gp g2 qc g4 g5 D r w u v ya s hd yi yh yo ti th eM)(hs:ik gp w u v w' u' v'):wW w0 g4 g5 D w':=by refine⟨Below.trans h.f.base (hs.low h.f.base.size h.f.low (λ q hq=>(h.f.rows 0 TD q hq).1) (λ q hq=>(h.f.rows 1 TD q hq).1)),h.f.new.1,h.f.new.2.1,h.f.new.2.2.1,h.f.new.2.2.2.1,h.f.new.2.2.2.2,hs.blk h.f.z4 (h.kp2 h.f.k4),hs.blk h.f.z5 (h.kp2 h.f.k5),(hs.block D (h.kp2 h.f.kD)).trans h.f.dd⟩
theorem zbJ.Kam(h:p:=by go_wp2_with fail;exact HE.ae er _ _ (ajn.ae.symm.trans oF.ae) nO.ae ⟨rfl,rfl,rfl⟩ HW.ae):p:=h
theorem zdj.KaF(h:p:=by simp[go_sem,h,z0,z1,x2,x3,x4,x5,x6,bD]):p:=h
theorem zhn.Kb8(h:p:=by have V1:=aa (sN.ae.apA (by rw[QU.ae] at zF ⊢;exact zF) (mB Hb.ae));exact Zch):p:=h
theorem ze9.Kbf(h:p:=by
 obtain⟨RA,rc,uW,_⟩:=sN.ae.o5.reads;have Aj:=aa sN.ae.o5;have HL7:=aa (show yh.length<=1000000 by have:=HFN.ae;have:=qA.ae;have:=GZ.ae;omega);have Al:=aa Ly;clear Ly;dsimp only at uW Aj;subst uW;obtain⟨r1,hr1⟩:∃r1:Rest,r1= { r with o:=Value.slice RA yh.length rc }:=⟨_,rfl⟩;have QU:=aa hr1;rw[<- hr1] at sN Hb;clear hr1;go_wp2_with fail;refine Gv (gp:=gp) (k:=15) (B:=w0.heap.size) (gx:=gY) (cs:=c.cells r1 u' v') (r:=Value.slice RA yh.length rc) (ys:=yh) (y:=Kx) (s0:=6) (s1:=28) (d0:=239) (d1:=240) (d2:=241) (d3:=242) (d4:=243) (d5:=244) (d6:=245) (d7:=246) (d8:=247) (d10:=248) (d11:=249) WC WC WC rfl rfl ?_ ?_ ?_ ?_ ?_ ?_ ?_ ?_ ?_ ?_ ?_ ?_ ?_ ?_ sN.ae.f.base.size sN.ae.blk Aj.ae HL7.ae Oo.ae Ua.ae.1 Ua.ae.2 ?_
 ·exact Zd5
 ·exact Zd5
 ·exact Zd5
 ·intro ρ w h hc;simp[go_sem,h,hc]
 ·intro ρ w h hb;open zdj in exact Zbq
 ·exact Zd5
 ·intro ρ w hc;simp[go_sem,hc.const,bD,wJ]
 ·exact Zeb
 ·exact Zgu
 ·rfl
 ·exact Zd5
 ·exact Zd5
 ·intro ρ w KK n1 c1 h1 h2 hc hf;simp[go_sem,h1,h2,hc,hf]
 ·rw[QU.ae];rfl
 open zhn in exact Zf8):p:=h
theorem zbd.Kag(h:p:=by
 clear k1;go_wp2_with fail;clear z0 z1 x2 x3 x4 x5 x6;refine(Db c w0 gp { r with o:=rv } t y s1 u1 v1 Jt W2 adC.ae kI.ae xm.ae tT.ae.ps TaM).mono ?_;intro e w6 hp;have tQ:=aa (lL c.aI c.aF c.cols t s1)
 cases hr:mb c.aI c.aF c.cols t s1 with
 | error er=>
   have jL:=uU.ae;rw[hr] at hp tQ jL;obtain⟨Kx,ty,u',v',rfl,hst⟩:=hp;have her:=tQ.ae.err _ rfl;have xo:X=.error er:=by rw[uH.ae,jL];rfl
   have oF:=aa xo;have nO:=aa her;have t1:(er != 0)=true:=by simp[her]
   have bg:=ah w6 (.cells (az Kx) 46);have HW:=aa ((tT.ae.err hst).later bg);clear xo hr her hst jL tQ uU tT bg;go_upto_region 50 with fail;generalize w6.alloc (.cells (az Kx) 46)=WD at*;obtain⟨_,_,_,uO,_,_,b4,b5,_⟩:=HW.ae;open zbJ in exact ZaB
 | ok p=>
   obtain⟨t2,ty,s2⟩:=p;have jL:=uU.ae;rw[hr] at hp tQ jL;obtain⟨Kx,u',v',M8,rfl,uG,pJ,hst⟩:=hp;have rR:=tT.ae.call hst pJ;have Xd:=tT.ae.tree hst pJ uG;have bg:=ah w6 (.cells (az Kx) 46);have Yq:=aB.new w6 46 (az Kx);have sN:=aa (rR.later bg);have Hb:=aa ((De.later (w0:=w0) (gp:=gp) (R:=PR u' v' { r with o:=rv }) bg).trees (Tr.eG Xd));have Ua:=aa (show w6.heap.size≠gp/\rv.ownBlock≠some w6.heap.size from⟨by have:=rR.f.lt;omega,λ e=>by have:=(rR.f.rows 5 TD _ e).2.1;omega⟩);have DG:=aa (tQ.ae.len _ _ _ rfl);have EM:=aa (show X=tS (eM++ [t2]) (dX c.aI c.aF c.cols (q.ord.drop (k+1)) s2) by
    rw[uH.ae,jL]
    exact DF eM t2 _)
   have Ly:=rR.t5.length;clear hr jL hst pJ uG rR Xd bg tQ uU uH tT;go_upto_region 50 with fail;open ze9 in exact Zc5):p:=h
theorem zhz.Kcb(h:p:=by
 rw[hn,<- fK] at z6;clear hE Ra JB TX Wy NT Gu TY Rb lX hP hR HX hn fK;simp only[bK,eZ,Tryz.f28,Option.getD_some];go_wp2_with fail;clear z6;go_loopw [224] (λ i wr=>∃(k:Nat) (rv u1 v1:Value) (Jt yh:u_) (s1:dp) (eM:uF),k<=zs.length/\i=af k/\cW c w0 gp g2 (fN q L) g4 g5 D { r with o:=rv } wr u1 v1 Jt s1 hd yi Lw yh ti th eM/\X=tS eM (dX c.aI c.aF c.cols (q.ord.drop k) s1)/\s1.aF.length+s1.aD.length+2*Tr.aN ((q.ord.map (·.1)).drop k)<=1000000/\eM.length=k) (λ i _=>zs.length - (intOf i).toNat);case atStart=>exact⟨0,r.o,u,v,ya,[],s,[],Nat.zero_le _,rfl,iz.ae,by rw[drop_zero,Ha];exact ajn.ae,by rw[drop_zero];exact HLEN.ae,rfl⟩
 case round=>
  clear iz;obtain⟨k,rv,u1,v1,Jt,yh,s1,eM,hk,rfl,hP,TZ,Rb,TH⟩:=hrel;have uH:=aa TZ;have AW:=aa Rb;have iz:=aa hP;have qA:=aa TH;clear TZ Rb hP TH;by_cases hlt:k < zs.length
  ·have gu:k < q.ord.length:=by rw[<- GZ.ae];exact hlt
   obtain⟨b,off,hA,Cu,hcell⟩:∃b off,L.o.A=some ⟨b,off,none⟩/\b < w0.heap.size/\cg w0 b (off+k*8) zs[k].1/\w0.cell? ⟨b,off+k*8+7,none⟩=some zs[k].2:=by exact Zg5
   have hb8:zs[k].2=.bool (q.ord[k]'gu).2:=by have h1:=congrArg (λ l=>l[k]?) L8.ae;simp only[getElem?_map,getElem?_eq_getElem hlt,getElem?_eq_getElem gu,Option.map_some] at h1;injection h1
   have rI:(q.ord[k]'gu).1.at_ w0 (Old w0) zs[k].1:=by
    have hl2:k <((q.ord.map λ y=>(y.1,Value.bool y.2)).map (·.1)).length:=by simpa using gu
    obtain⟨Kx,h1,h2⟩:=pI hl2 Yi.ae;exact Ze2
   have gP:(q.ord[k]'gu).1.ok:=dO.1 HIL.ae _ (mem_map_of_mem (getElem_mem gu));have hnd:Tr.aN ((q.ord.map (·.1)).drop k)=(q.ord[k]'gu).1.nodes+Tr.aN ((q.ord.map (·.1)).drop (k+1)):=by have h1:=uN (ts:=q.ord.map (·.1)) (k:=k) (by simpa using gu);simpa using h1
   have hdr:dX c.aI c.aF c.cols (q.ord.drop k) s1=(match mb c.aI c.aF c.cols (q.ord[k]'gu).1 s1 with
     | .error e=> .error e
     | .ok (Kx,_,s')=>match dX c.aI c.aF c.cols (q.ord.drop (k+1)) s' with
       | .error e=> .error e
       | .ok (ys,LC)=> .ok (Kx::ys,LC)):=by
    rw[drop_eq_getElem_cons gu];obtain⟨t,bb⟩:=q.ord[k];rfl
   rw[hb8] at hcell;generalize zs[k].1=y at*;generalize (q.ord[k]'gu).2=b8 at*;generalize (q.ord[k]'gu).1=t at*;obtain⟨hex,h7⟩:=hcell;have iQ:=hex.keep (λ o=>iz.ae.f.base.cell (p:=⟨b,o,none⟩) Cu);have h72:=(iz.ae.f.base.cell (p:=⟨b,off+k*8+7,none⟩) Cu).trans h7;unfold cg at iQ;have xm:=aa rI;have kI:=aa gP;have HND:=aa hnd;have uU:=aa hdr;have HAA:=aa hA;rw[hA];clear hex h7 rI gP hnd hdr hA Cu hb8 gu;go_upto_region 49 with fail;clear iQ h72;have k1:=aB.new wr 117 #[ag y.op,ag y.v.k,af y.v.n,.string y.v.s,.string y.name,af y.width,.slice y.A y.n y.c,.bool b8];have MK:=ah wr (.cells #[ag y.op,ag y.v.k,af y.v.n,.string y.v.s,.string y.name,af y.width,.slice y.A y.n y.c,.bool b8] 117);generalize wr.alloc (.cells #[ag y.op,ag y.v.k,af y.v.n,.string y.v.s,.string y.name,af y.width,.slice y.A y.n y.c,.bool b8] 117)=W2 at*;have tT:=aa (iz.ae.later MK);generalize wr.heap.size=g12 at*;clear iz MK;open zbd in exact Zau
  ·have GR:k=zs.length:=by omega
   have hXo:X=.ok (eM,s1):=by rw[uH.ae,GR,GZ.ae,drop_length];show Except.ok (eM++ [],s1)=_;rw[append_nil]
   have V2:=aa hXo;clear hXo;subst GR;have HW:=aa iz.ae.f.U9;obtain⟨_,_,_,uO,_,_,b4,b5,_⟩:=HW.ae;have c4:=b4.cell 0;have c5:=(b5.far (p:=⟨g4,0,none⟩) (Ne.symm uO) (aw gp)).cell 0;have f4:=b4.frozen 0;have f5:=(b5.far (p:=⟨g4,0,none⟩) (Ne.symm uO) (aw gp)).frozen 0;simp only[getElem?_toArray,getElem?_cons_zero] at c4 c5;clear b4 b5 uO;go_wp2_with fail;exact nI.ae _ _ _ u1 v1 Jt s1 yh eM (ajn.ae.symm.trans V2.ae) ⟨rfl,rfl,rfl⟩ iz.ae):p:=h
theorem zhO.Kci(h:p:=by have iz:=aa hP;have hR:=hP.f.z2;unfold fN at hR;open zhz in exact Zgb):p:=h
theorem zeE.Ka3(h:p:=by
 obtain⟨hn,zs,Wy,NT,Gu⟩:=Yv;rw[length_map] at hn;have fK:zs.length=q.ord.length:=by have:=congrArg List.length NT;simpa using this
 have HX:=aa (show∃X,X=dX c.aI c.aF c.cols q.ord s from⟨_,rfl⟩);obtain⟨X,lX⟩:=HX.ae;open zhO in exact ZgG):p:=h
theorem Xc (c:PC)(w0:rQ)(gp g2 g4 g5 D:Nat)(q:Qy)(L:QL)(r:Rest)(u v:Value)(ya:u_)(s:dp)(hd:List aV)(yi Lw:u_)(ti th:uF)(T:x_)(hT:T.size=252)
  (h2:T.getD 2 undef=aw g2) (h4:T.getD 4 undef=aw g4) (h5:T.getD 5 undef=aw g5) (h6:T.getD 6 undef=aw gp) (d:List Deferred) (w:rQ) (Q:yD)
  (JB:c.Ok w0) (TX:Tr.cH (q.ord.map (·.1))) (Yv:fE w0 (q.ord.map λ y=>(y.1,.bool y.2)) L.o.A L.o.n) (TY:q.ord.length<=1000000) (Rb:s.aF.length+s.aD.length+2*Tr.aN (q.ord.map (·.1))<=1000000)
  (hP:cW c w0 gp g2 (fN q L) g4 g5 D r w u v ya s hd yi Lw [] ti th [])
  (hE:∀er a W,dX c.aI c.aF c.cols q.ord s=.error er->er≠0->qf a d g4 g5->wW w0 g4 g5 D W->Q .ret a (jt W g4 g5 er))
  (Ra:∀a W r' u' v' pY s' yh eM,dX c.aI c.aF c.cols q.ord s=.ok (eM,s')->qf a d g4 g5->cW c w0 gp g2 (fN q L) g4 g5 D r' W u' v' pY s' hd yi Lw yh ti th eM->Q .ret a (jF W g4 g5 gp)):
  (eZ bK 9).wp Tryz.prog Q { tmps:=T,defers:=d } w:=by
 open zeE in exact Zct
end Go.Proofs.YtndgjggokjickaaGreatDoor
