/- Parts of the proof. -/
import Derived.Test.YtndgjggokjickaaGreatDoorXS8
namespace Go.Proofs.YtndgjggokjickaaGreatDoor
variable{p:Prop}
set_option maxHeartbeats 90000000
set_option maxRecDepth 100000
open Go.ChangeShapes Go.WideShapes Go.ChangeAt Go.RowKit List
set_option linter.unusedVariables false
set_option linter.unusedSimpArgs false
theorem zgu.Kbu(h:p:=by obtain⟨y,sb⟩:=yb;dsimp only at*;have HS:=aa hS;have pd:=aa gD;clear hS gD;skip;exact ZfT):p:=h
theorem Jz (gc:Nat)(A:Option Addr)(c:Nat)(args:List (aN×Bool))(w:World)(hl:args.length<=1599289640356)(hA:RR w w.heap.size A (args.map (·.1)))(hE:∀a∈args,∀W,aj w W->ar 30 #[.slice a.1.A a.1.l.length a.1.c,aw gc] W λ e w'=>e=.returned (.bool a.2)/\aj W w'):
  ar 62 #[.slice A args.length c,.func (.func 30) #[] #[.pointer (some ⟨gc,0,none⟩)]] w λ e w'=>e=.returned (.int .i64 (fV (args.map (·.2))))/\aj w w':=by
 have HA:=aa hA;have HE:=aa hE;clear hA hE;go_enter Tryz.func62,Tryz.ntmps62;go_wp2_with fail;go_loopw [5,8] (λ _ Kx wr=>∃i:Nat,i<=args.length/\Kx=af i/\(∀j,j < i->(args.map (·.2)).getD j false=false)/\aj w wr) (λ _ Kx _=>args.length - (intOf Kx).toNat);case atStart=>exact ZfV
 case round=>
  obtain⟨i,hk,rfl,hp,hb⟩:=hrel;have HP:=aa hp;clear hp;by_cases hlt:i < args.length
  ·open zgu in exact ZdX
  ·exact ZdN
theorem Au (gc:Nat)(A:Option Addr)(c:Nat)(args:List (aN×Bool))(w:World)(hl:args.length<=1599289640356)(hA:RR w w.heap.size A (args.map (·.1)))(hE:∀a∈args,∀W,aj w W->ar 30 #[.slice a.1.A a.1.l.length a.1.c,aw gc] W λ e w'=>e=.returned (.bool a.2)/\aj W w'):
  ar 29 #[.slice A args.length c,.func (.func 30) #[] #[.pointer (some ⟨gc,0,none⟩)]] w λ e w'=>e=.returned (.bool ((args.map (·.2)).any id))/\aj w w':=by have hi:=Jz gc A c args w hl hA hE;rw[vX];clear hA hE;go_enter Tryz.func29,Tryz.ntmps29;exact Zba
theorem Na (gc:Nat)(cols:List aZ)(CA:Option Addr)(cc:Nat)(r:aN)(w:World)(hgc:gc < w.heap.size)(hcc:w.cell? ⟨gc,0,none⟩=some (.slice CA cols.length cc))(cg:cols.length<=140737488355328)(lX:r.l.length<=140737488355328)(hC:RC w w.heap.size CA cols)(hV:RV w w.heap.size r.A r.l):
  ar 30 #[.slice r.A r.l.length r.c,aw gc] w λ e w'=>e=.returned (.bool (!ib cols r.l))/\aj w w':=by have h:=I3 cols CA cc r.l r.A r.c w cg lX hC hV;have H:=aa h;clear h hC hV cg lX;go_enter Tryz.func30,Tryz.ntmps30;go_wp2_with fail;refine H.ae.mono ?_;rintro e w1 ⟨rfl,b9⟩;go_wp2_with fail;go_ret;exact⟨rfl,b9⟩
theorem Nb (gc:Nat)(cols:List aZ)(CA:Option Addr)(cc:Nat)(rows:List aN)(A:Option Addr)(c:Nat)(w:World)(hgc:gc < w.heap.size)(hcc:w.cell? ⟨gc,0,none⟩=some (.slice CA cols.length cc))(cg:cols.length<=140737488355328)(hn:rows.length<=1599289640356)(lX:∀r∈rows,r.l.length<=140737488355328)(hC:RC w w.heap.size CA cols)(hR:RR w w.heap.size A rows):
  ar 29 #[.slice A rows.length c,.func (.func 30) #[] #[.pointer (some ⟨gc,0,none⟩)]] w λ e w'=>e=.returned (.bool (rows.any λ r=> !ib cols r.l))/\aj w w':=by
 have h:=Au gc A c (rows.map λ r=>(r,!ib cols r.l)) w (by simpa using hn) (by simpa [Function.comp_def] using hR) (λ a ha W hW=>by
  obtain⟨r,hr,rfl⟩:=List.mem_map.1 ha
  have tO:RV W W.heap.size r.A r.l:=by
   obtain⟨k,hk,he⟩:=getElem_of_mem hr
   obtain⟨b,off,_,_,_,h5⟩:=(hR.below hW).at_ hk
   rw[he] at h5
   exact h5.more hW.size
  exact Na gc cols CA cc r W (Nat.lt_of_lt_of_le hgc hW.size) ((hW.cell (p:=⟨gc,0,none⟩) hgc).trans hcc) cg (lX r hr) (hC.later hW) tO)
 rw[length_map,map_map,any_map] at h;exact h
def c4V (g4 g5 k b1 o1 b2 o2:Nat)(ka kb:Value)(x y:Val):Nat->World->Value->Prop
 | 0,_,v=>v=bj g4 1
 | 1,_,v=>v=ka
 | 2,_,v=>v=af k
 | 3,_,v=>v=bj b1 (o1+k*3)
 | 4,_,v=>v=.agg (aH x)
 | 5,_,v=>v=bj g5 1
 | 6,_,v=>v=kb
 | 7,_,v=>v=af k
 | 8,_,v=>v=bj b2 (o2+k*3)
 | 9,_,v=>v=.agg (aH y)
 | 10,_,v=>v=af (bQ x y)
 | 11,_,v=>v=af (bQ x y)
 | _,_,_=>False
theorem VG (g4 g5 k b1 o1 b2 o2:Nat)(ka kb:Value)(x y:Val):∀i w w' v,c4V g4 g5 k b1 o1 b2 o2 ka kb x y i w v->ai w w'->c4V g4 g5 k b1 o1 b2 o2 ka kb x y i w' v:=by
 intro i w w' v h hl
 match i with
 | 0 | 1 | 2 | 3 | 4 | 5 | 6 | 7 | 8 | 9 | 10 | 11=>exact h
 | n+12=>exact h
structure qu where
 row:aN
 keys:aN
def qu.v (l:qu):Value:=.agg #[.slice l.row.A l.row.l.length l.row.c,.slice l.keys.A l.keys.l.length l.keys.c]
def qu.s (l:qu):eI:=⟨l.row.l,l.keys.l⟩
structure qu.At (w:World) (l:qu) (n:Nat):Prop where
 row:RV w w.heap.size l.row.A l.row.l
 keys:RV w w.heap.size l.keys.A l.keys.l
 len:l.keys.l.length=n
 short:l.row.l.length<=1000
variable{w w':World}{l:qu}{n:Nat}
theorem qu.At.later(h:l.At w n)(hb:aj w w'):l.At w' n:=⟨h.row.later hb,h.keys.later hb,h.len,h.short⟩
variable{x y:Int}
theorem I4(h:x≠0):oN x y=x:=if_neg h
theorem GL:oN 0 y=y:=if_pos rfl
variable{d:Bool}{ds:List Bool}{a b:Val}{la lb:List Val}
theorem QP:wh (d::ds) (a::la) (b::lb)=oN (YC d a b) (wh ds la lb):=rfl
theorem VH (x y z:Int):oN (oN x y) z=oN x (oN y z):=by
 unfold oN;repeat' split
 all_goals first | rfl |(exfalso;omega)| omega
theorem Nc (gp:Nat)(aL:List (Tr×Bool))(oA:Option Addr)(on oc:Nat)(a b:qu)(w:World)(hF:aL.length<=1599289640356)(sQ:gp < w.heap.size)(Cn:w.cell? ⟨gp,6,none⟩=some (.slice oA on oc))(hO:eQ w (aL.map λ x=>(x.1,Value.bool x.2)) oA on)(oF:a.At w aL.length)(hb:b.At w aL.length):
  ar 39 #[aw gp,a.v,b.v] w λ e w'=>e=.returned (af (ud (aL.map λ x=>x.2) a.s b.s))/\aj w w':=by
 obtain⟨e8,ys,hys,a2,hy3⟩:=hO;rw[length_map] at e8;subst e8;have q3:ys.length=aL.length:=by have:=congrArg List.length a2;simpa using this
 have q2:∀(i:Nat) (z:Ex×Value) (o:Tr×Bool),ys[i]?=some z->aL[i]?=some o->z.2=.bool o.2:=λ i z o hz ho=>by have h1:=congrArg (λ l=>l[i]?) a2;simp only[getElem?_map,hz,ho,Option.map_some] at h1;injection h1
 clear a2 hy3;obtain⟨⟨rA,rl,rc⟩,⟨kA,kl,kc⟩⟩:=a;obtain⟨⟨sA,sl,sc⟩,⟨jA,jl,jc⟩⟩:=b;obtain⟨rt,hrt⟩:∃rt,rt=ud (aL.map λ x=>x.2) (qu.s ⟨⟨rA,rl,rc⟩,⟨kA,kl,kc⟩⟩) (qu.s ⟨⟨sA,sl,sc⟩,⟨jA,jl,jc⟩⟩):=⟨_,rfl⟩;rw[<- hrt];have ih:=oF.len;have q1:=hb.len;dsimp only at ih q1;unfold qu.v;dsimp only;have aoe:rt=oN (wh ((aL.map λ x=>x.2).drop 0) (kl.drop 0) (jl.drop 0)) (bu rl sl):=hrt;have Lt:=aa aoe;clear hrt aoe;have HF:=aa hF;have IH:=aa ih;have Q1:=aa q1;have HH:=aa q2;have Q3:=aa q3;have b1:=ah w (.cells #[.slice rA rl.length rc,.slice kA kl.length kc] 91);have oP:=aC.new w 91 #[.slice rA rl.length rc,.slice kA kl.length kc];have b2:=ah (w.alloc (.cells #[.slice rA rl.length rc,.slice kA kl.length kc] 91)) (.cells #[.slice sA sl.length sc,.slice jA jl.length jc] 91);have HZ:=aC.new (w.alloc (.cells #[.slice rA rl.length rc,.slice kA kl.length kc] 91)) 91 #[.slice sA sl.length sc,.slice jA jl.length jc];replace oP:=oP.later b2;have bb:=ai.then b1 b2;rw[World.size_alloc] at HZ;have tz:=aa (oF.later bb);have HBL:=aa (hb.later bb);have HY:=aa (hys.later bb);have HPO:=aa ((bb.cell (p:=⟨gp,6,none⟩) sQ).trans Cn);have Kb:=aa (Nat.lt_of_lt_of_le sQ bb.size);have HB:=aa bb;clear oF hb hys Cn sQ bb b1 b2 hF ih q1 q2 q3;go_enter Tryz.func39,Tryz.ntmps39;go_upto_region 1 with fail;generalize World.alloc (World.alloc w _) _=W at*;obtain⟨g4,hg4⟩:∃g4,g4=w.heap.size+1:=⟨_,rfl⟩;rw[<- hg4] at HZ ⊢;clear hg4;obtain⟨KK,LE⟩:∃KK,KK=w.heap.size:=⟨_,rfl⟩;rw[<- LE] at oP ⊢;clear LE;have Cn:=HPO.ae;have aof:=aa oP;have aog:=aa HZ
 clear oP HZ;go_wp2_with fail;clear Cn;go_loopw [16] (λ Ly wr=>∃i:Nat,i<=aL.length/\Ly=af i/\rt=oN (wh ((aL.map λ x=>x.2).drop i) (kl.drop i) (jl.drop i)) (bu rl sl)/\aj W wr) (λ Ly _=>aL.length - (intOf Ly).toNat);case atStart=>exact⟨0,Nat.zero_le _,rfl,Lt.ae,Below.refl _ _⟩
 case round=>
  clear Lt;obtain⟨i,hk,rfl,hp,hb⟩:=hrel;have HP:=aa hp;clear hp;by_cases hlt:i < aL.length
  ·have fK:i < kl.length:=by have:=IH.ae;omega
   have ahx:i < jl.length:=by have:=Q1.ae;omega
   have aoh:i < ys.length:=by have:=Q3.ae;omega
   obtain⟨bo,oo,rfl,Cw,hex,hd⟩:=(HY.ae.below hb).at_ aoh;rw[HH.ae i _ _ (getElem?_eq_getElem aoh) (getElem?_eq_getElem hlt)] at hd;obtain⟨b2,o1,Uh,hb1,hx1⟩:=(tz.ae.keys.below hb).at_ fK;obtain⟨Kx,o2,xH,hb2,hx2⟩:=(HBL.ae.keys.below hb).at_ ahx;dsimp only at Uh xH;subst Uh xH;have II:=aa (show(aL.map λ x=>x.2).drop i=aL[i].2::(aL.map λ x=>x.2).drop (i+1) by rw[drop_eq_getElem_cons Tan];simp);have Ke:=aa (show kl.drop i=kl[i]::kl.drop (i+1)from drop_eq_getElem_cons fK);have HD3:=aa (show jl.drop i=jl[i]::jl.drop (i+1)from drop_eq_getElem_cons ahx);generalize aL[i].2=ds at*;generalize kl[i]=x at*;generalize jl[i]=y at*;generalize ys[i]=z at*;obtain⟨z1,z2⟩:=z;dsimp only at hex hd;unfold cy at hex;unfold eh at hx1 hx2;go_upto_region 4 with fail;have RG:=hx1;have hcy:=hx2;have HG:=aC.new wr 117 #[ag z1.op,ag z1.v.k,af z1.v.n,.string z1.v.s,.string z1.name,af z1.width,.slice z1.A z1.n z1.c,.bool ds];have bV:=ah wr (.cells #[ag z1.op,ag z1.v.k,af z1.v.n,.string z1.v.s,.string z1.name,af z1.width,.slice z1.A z1.n z1.c,.bool ds] 117);have oP:=(aof.ae.later hb).later bV;have HZ:=(aog.ae.later hb).later bV;have I5:b2 < wr.heap.size:=Nat.lt_of_lt_of_le hb1 hb.size;have I6:Kx < wr.heap.size:=Nat.lt_of_lt_of_le hb2 hb.size;have HX:=aa (And.intro (bV.cell (p:=⟨b2,o1+i*3,none⟩) I5 |>.trans RG.1) (And.intro (bV.cell (p:=⟨b2,o1+i*3+1,none⟩) I5 |>.trans RG.2.1) (bV.cell (p:=⟨b2,o1+i*3+2,none⟩) I5 |>.trans RG.2.2)));have HYY:=aa (And.intro (bV.cell (p:=⟨Kx,o2+i*3,none⟩) I6 |>.trans hcy.1) (And.intro (bV.cell (p:=⟨Kx,o2+i*3+1,none⟩) I6 |>.trans hcy.2.1) (bV.cell (p:=⟨Kx,o2+i*3+2,none⟩) I6 |>.trans hcy.2.2)))
   have eN:=aa (Nat.lt_of_lt_of_le I5 bV.size);have fH:=aa (Nat.lt_of_lt_of_le I6 bV.size);have hB:=ai.then hb bV;generalize wr.alloc _=W2 at*;obtain⟨g8,WT⟩:∃g8,g8=wr.heap.size:=⟨_,rfl⟩;rw[<- WT] at HG ⊢;clear WT hx1 hx2 RG hcy hex hd bV I5 I6 hb;refine bC 12 (c4V KK g4 i b2 o1 Kx o2 (.slice (some ⟨b2,o1,none⟩) kl.length kc) (.slice (some ⟨Kx,o2,none⟩) jl.length jc) x y) (VG _ _ _ _ _ _ _ _ _ _ _) Vx Vx Vx ?_ ?_
   ·simp only[take_succ_cons,take_zero];refine⟨Zab,?_,Zab,?_,?_,Zab,?_,Zab,?_,?_,?_,Zab,trivial⟩
    ·intro ρ W4 hc hL hr;have h0:_=_:=hr.1;have c0:=(oP.later hL).cell 1;exact Za0
    ·intro ρ W4 hc hL hr;have h0:_=_:=hr.1;have h1:_=_:=hr.2.1;have qA:(i:Int)<(kl.length:Int):=by omega
     exact aq (w':=W4) (by simp[go_sem,h0,h1,qA,fK,dR];done) ⟨ai.refl _,rfl⟩
    ·intro ρ W4 hc hL hr;have h0:_=_:=hr.1;have y0:=(hL.cell (p:=⟨b2,o1+i*3,none⟩) eN.ae).trans HX.ae.1;have y1:=(hL.cell (p:=⟨b2,o1+i*3+1,none⟩) eN.ae).trans HX.ae.2.1;have y2:=(hL.cell (p:=⟨b2,o1+i*3+2,none⟩) eN.ae).trans HX.ae.2.2;exact ZdT
    ·intro ρ W4 hc hL hr;have h0:_=_:=hr.1;have c0:=(HZ.later hL).cell 1;exact Za0
    ·intro ρ W4 hc hL hr;have h0:_=_:=hr.1;have h1:_=_:=hr.2.1;have qA:(i:Int)<(jl.length:Int):=by omega
     exact aq (w':=W4) (by simp[go_sem,h0,h1,qA,ahx,dR];done) ⟨ai.refl _,rfl⟩
    ·intro ρ W4 hc hL hr;have h0:_=_:=hr.1;have y0:=(hL.cell (p:=⟨Kx,o2+i*3,none⟩) fH.ae).trans HYY.ae.1;have y1:=(hL.cell (p:=⟨Kx,o2+i*3+1,none⟩) fH.ae).trans HYY.ae.2.1;have y2:=(hL.cell (p:=⟨Kx,o2+i*3+2,none⟩) fH.ae).trans HYY.ae.2.2;exact ZdT
    ·intro ρ W4 hc hL hr;have h0:_=_:=hr.1;have h1:_=_:=hr.2.1;have e1:=hc.func 18;refine bD (f:=18) (args:= #[.agg (aH x),.agg (aH y)]) (w':=W4) Tar ?_;refine(ed x y W4).mono ?_;exact Zbs
   intro W3 hL;simp only[Uab];rintro a0 - a1 - Lw - a3 - a4 - a5 - a6 - a7 - a8 - a9 - FN - _ rfl;simp only[bF,Act.put,Uac];have hst:rt=oN (YC ds x y) (oN (wh ((aL.map λ x=>x.2).drop (i+1)) (kl.drop (i+1)) (jl.drop (i+1))) (bu rl sl)):=by rw[HP.ae,II.ae,Ke.ae,HD3.ae,QP,VH]
   have d7:=(HG.later hL).cell 7;simp only[Uaa] at d7;have hW:=ai.then hB hL;have hvb:=Ib x y;have mL:YC ds x y=if ds=true then -(bQ x y)else bQ x y:=rfl;rw[mL] at hst;clear mL HG oP HZ HX HYY eN fH hB hL HP II Ke HD3;generalize bQ x y=vv at*;obtain⟨v1,v2⟩:=hvb;by_cases h0:vv=0
   ·subst h0;have hF:=HF.ae;have HR:=aa (show rt=oN (wh ((aL.map λ x=>x.2).drop (i+1)) (kl.drop (i+1)) (jl.drop (i+1))) (bu rl sl) by rw[hst];cases ds <;> exact GL);clear hst v1 v2;cases ds
    ·exact Zc2
    ·exact Zc2
   ·cases ds
    ·have hr:rt=vv:=by rw[hst];exact I4 (by simpa using h0)
     subst hr;have t1:(rt != 0)=true:=by simpa using h0
     have t2:decide (rt=0)=false:=by simpa using h0
     clear hst h0;go_wp2_with fail;go_ret;exact⟨rfl,ai.then HB.ae hW⟩
    ·have hr:rt= -vv:=by rw[hst];exact I4 Tab
     have t1:((-vv) != 0)=true:=by simp;omega
     have t2:decide ((-vv)=0)=false:=by simp;omega
     have Pn:=aa hr;clear hst h0 hr;exact Zh2
  ·have fL:i=aL.length:=by omega
   have hr:rt=bu rl sl:=by rw[HP.ae,drop_eq_nil_of_le (by rw[length_map];omega)];exact GL
   subst hr;have hra:=(tz.ae.later hb).row;have hrb:=(HBL.ae.later hb).row;dsimp only at hra hrb;have l1:=(aof.ae.later hb).cell 0;have l2:=(aog.ae.later hb).cell 0;simp only[getElem?_toArray,getElem?_cons_zero] at l1 l2;have hrw:=vQ rA rc rl sA sc sl wr hra hrb tz.ae.short HBL.ae.short;have H:=aa hrw;clear hra hrb hrw HP;go_wp2_with fail;refine H.ae.mono ?_;rintro e w1 ⟨rfl,b9⟩;go_wp2_with fail;go_ret;exact⟨rfl,ai.then HB.ae (ai.then hb b9)⟩
end Go.Proofs.YtndgjggokjickaaGreatDoor
namespace Go.Proofs.YtndgjggokjickaaGreatDoor.L
variable{p:Prop}
set_option maxHeartbeats 90000000
set_option maxRecDepth 100000
open Go.ChangeShapes Go.WideShapes Go.ChangeAt Go.RowKit List
set_option linter.unusedVariables false
set_option linter.unusedSimpArgs false
structure aR (ds:List Bool) (gp:Nat) where
 row:aN
 keys:aN
variable {ds:List Bool} {gp:Nat}
def aR.rv (x:aR ds gp):Value:=.slice x.row.A x.row.l.length x.row.c
def aR.kv (x:aR ds gp):Value:=.slice x.keys.A x.keys.l.length x.keys.c
def aR.s (x:aR ds gp):eI:=⟨x.row.l,x.keys.l⟩
def gC (x y:aR ds gp):Int:=ud ds x.s y.s
theorem GM (x y:aR ds gp):gC y x= -(gC x y):=(pP ds).jh _ _
theorem VI (x:aR ds gp):gC x x=0:=by have:=GM x x;omega
theorem QQ (x y z:aR ds gp)(h:gC x y<=0)(k:gC y z<=0):gC x z<=0:=(pP ds).trans _ _ _ h k
def RN (w:World)(g:Nat)(r:aN):Prop:=
 r.l=[]\/∃b off,r.A=some ⟨b,off,none⟩/\b < w.heap.size/\b≠g/\∀i x,r.l[i]?=some x->eh w b (off+i*3) x
variable{w w':World}{g:Nat}
theorem RN.rv{r:aN}(h:RN w g r)(hg:w.grownBy w' (some g)):RV w' w'.heap.size r.A r.l:=by exact Zdp
def At (w:World)(g n:Nat)(D:Nat->aR ds gp):Prop:=∃cs,aC w g 91 cs/\n*2<=cs.size/\∀i,i < n->cs[i*2]?=some (D i).rv/\cs[i*2+1]?=some (D i).kv
variable{n:Nat}{D:Nat->aR ds gp}
theorem At.cell(h:At w g n D)(i:Nat)(hi:i < n):w.cell? ⟨g,i*2,none⟩=some (.slice (D i).row.A (D i).row.l.length (D i).row.c):=by obtain⟨cs,hb,_,hc⟩:=h;rw[hb.cell,(hc i hi).1];rfl
theorem At.dH(h:At w g n D)(i:Nat)(hi:i < n):w.cell? ⟨g,i*2+1,none⟩=some (.slice (D i).keys.A (D i).keys.l.length (D i).keys.c):=by obtain⟨cs,hb,_,hc⟩:=h;rw[hb.cell,(hc i hi).2];rfl
theorem At.frozen(h:At w g n D)(i:Nat):w.frozen? ⟨g,i,none⟩=false:=by obtain⟨cs,hb,_,hc⟩:=h;exact hb.frozen i
theorem At.later(h:At w g n D)(hb:aj w w'):At w' g n D:=by obtain⟨cs,h1,h2,h3⟩:=h;exact⟨cs,h1.later hb,h2,h3⟩
def swp (D:Nat->aR ds gp)(i j:Nat):Nat->aR ds gp:=λ k=>if k=j then D i else if k=i then D j else D k
variable{cs:Array Value}{q:Nat}{u:Value}
theorem Te{p:Nat} {v:Value}:(((cs.setIfInBounds (p*2) u).setIfInBounds (p*2+1) v))[q*2]?=(if q=p then(if p*2 < cs.size then some u else none)else cs[q*2]?)/\(((cs.setIfInBounds (p*2) u).setIfInBounds (p*2+1) v))[q*2+1]?=(if q=p then(if p*2+1 < cs.size then some v else none)else cs[q*2+1]?):=by
 rw[Array.getElem?_setIfInBounds,Array.getElem?_setIfInBounds,Array.getElem?_setIfInBounds,Array.getElem?_setIfInBounds];simp only[Array.size_setIfInBounds];constructor
 ·exact Zir
 ·exact Zir
theorem At.swap(h:At w g n D)(i j:Nat)(hi:i < n)(hj:j < n):At (((((w.setCell ⟨g,i*2,none⟩ (D j).rv).setCell ⟨g,i*2+1,none⟩ (D j).kv).setCell ⟨g,j*2,none⟩ (D i).rv).setCell ⟨g,j*2+1,none⟩ (D i).kv).drew) g n (swp D i j):=by
 obtain⟨cs,h1,h2,h3⟩:=h;refine⟨((((cs.setIfInBounds (i*2) (D j).rv).setIfInBounds (i*2+1) (D j).kv).setIfInBounds (j*2) (D i).rv).setIfInBounds (j*2+1) (D i).kv),((((h1.aW (i*2) _).aW (i*2+1) _).aW (j*2) _).aW (j*2+1) _).drew,by simpa using h2,λ k hk=>?_⟩;obtain⟨e0,e1⟩:=h3 k hk;unfold swp;obtain⟨a1,a2⟩:=Te (cs:=(cs.setIfInBounds (i*2) (D j).rv).setIfInBounds (i*2+1) (D j).kv) (p:=j) (q:=k) (u:=(D i).rv) (v:=(D i).kv);obtain⟨b1,b2⟩:=Te (cs:=cs) (p:=i) (q:=k) (u:=(D j).rv) (v:=(D j).kv);rw[a1,a2,b1,b2];simp only[Array.size_setIfInBounds];by_cases c1:k=j
 ·rw[if_pos c1,if_pos c1,if_pos c1,if_pos WC,if_pos WC];exact ZfI
 ·rw[if_neg c1,if_neg c1,if_neg c1];by_cases c2:k=i
  ·rw[if_pos c2,if_pos c2,if_pos c2,if_pos WC,if_pos WC];exact ZfI
  ·rw[if_neg c2,if_neg c2,if_neg c2];exact⟨e0,e1⟩
def aeA (ds:List Bool)(gp:Nat)(w0:World)(g:Nat):Prop:=∀(x y:aR ds gp) W,w0.grownBy W (some g)->RN w0 g x.row->RN w0 g x.keys->RN w0 g y.row->RN w0 g y.keys->x.row.l.length<=1000->y.row.l.length<=1000->x.keys.l.length=ds.length->y.keys.l.length=ds.length->
 ar 39 #[aw gp,.agg #[.slice x.row.A x.row.l.length x.row.c,.slice x.keys.A x.keys.l.length x.keys.c],.agg #[.slice y.row.A y.row.l.length y.row.c,.slice y.keys.A y.keys.l.length y.keys.c]] W λ e w'=>e=.returned (af (gC x y))/\aj W w'
structure SS (w0:World) (g n:Nat) (w:World) (D:Nat->aR ds gp):Prop where
 at_:At w g n D
 grown:w0.grownBy w (some g)
 rows:∀k,k < n->RN w0 g (D k).row/\RN w0 g (D k).keys/\(D k).row.l.length<=1000/\(D k).keys.l.length=ds.length
 ord:aeA ds gp w0 g
variable{w0:World}
theorem SS.later(h:SS w0 g n w D)(hb:aj w w'):SS w0 g n w' D:=⟨h.at_.later hb,ba h.grown (aT hb),h.rows,h.ord⟩
variable{W:World}
theorem SS.cmp(h:SS w0 g n w D)(i j:Nat)(hi:i < n)(hj:j < n)(hW:aj w W):
  ar 39 #[aw gp,.agg #[.slice (D i).row.A (D i).row.l.length (D i).row.c,.slice (D i).keys.A (D i).keys.l.length (D i).keys.c],.agg #[.slice (D j).row.A (D j).row.l.length (D j).row.c,.slice (D j).keys.A (D j).keys.l.length (D j).keys.c]] W λ e w'=>e=.returned (af (gC (D i) (D j)))/\aj W w':=
 h.ord _ _ W (ba h.grown (aT hW)) (h.rows i hi).1 (h.rows i hi).2.1 (h.rows j hj).1 (h.rows j hj).2.1 (h.rows i hi).2.2.1 (h.rows j hj).2.2.1 (h.rows i hi).2.2.2 (h.rows j hj).2.2.2
theorem SS.swap(h:SS w0 g n w D)(i j:Nat)(hi:i < n)(hj:j < n):SS w0 g n (((((w.setCell ⟨g,i*2,none⟩ (D j).rv).setCell ⟨g,i*2+1,none⟩ (D j).kv).setCell ⟨g,j*2,none⟩ (D i).rv).setCell ⟨g,j*2+1,none⟩ (D i).kv).drew) (swp D i j):=by refine⟨h.at_.swap i j hi hj,jw (aG (aG (aG (aG h.grown _ _) _ _) _ _) _ _),λ k hk=>?_,h.ord⟩;exact Zg8
theorem SS.second(h:SS w0 g n w D)(i j:Nat)(hi:i < n)(hj:j < n)(x:aR ds gp):(∃v,(w.setCell ⟨g,i*2,none⟩ x.rv).cell? ⟨g,i*2+1,none⟩=some v)/\(∃v,((w.setCell ⟨g,i*2,none⟩ x.rv).setCell ⟨g,i*2+1,none⟩ x.kv).cell? ⟨g,j*2,none⟩=some v)/\∃v,(((w.setCell ⟨g,i*2,none⟩ x.rv).setCell ⟨g,i*2+1,none⟩ x.kv).setCell ⟨g,j*2,none⟩ (D i).rv).cell? ⟨g,j*2+1,none⟩=some v:=by
 obtain⟨cs,h1,h2,h3⟩:=h.at_;have Kl:∀(cs:Array Value) k,k < cs.size->∃v,cs[k]?=some v:=λ cs k hk=>⟨_,Array.getElem?_eq_getElem hk⟩
 refine⟨?_,?_,?_⟩
 ·rw[(h1.aW _ _).cell];exact Kl _ _ Tab
 ·rw[((h1.aW _ _).aW _ _).cell];exact Kl _ _ Tab
 ·rw[(((h1.aW _ _).aW _ _).aW _ _).cell];exact Kl _ _ Tab
def dS (D:Nat->aR ds gp)(a b c:Nat):Nat->aR ds gp:=λ k=>if a<=k/\k < a+c then D (k - a+b)else if b<=k/\k < b+c then D (k - b+a)else D k
theorem ma (D:Nat->aR ds gp)(a b:Nat):dS D a b 0=D:=by funext k;unfold dS;rw[if_neg WC,if_neg WC]
theorem mb (D:Nat->aR ds gp)(a b i:Nat)(h:a+i < b):swp (dS D a b i) (a+i) (b+i)=dS D a b (i+1):=by funext k;unfold swp dS;exact Zb3
def ry (w0:World)(g n:Nat)(D:Nat->aR ds gp)(e:Ending)(w':World):Prop:=e=.returned (.tuple #[])/\SS w0 g n w' D
theorem eL (w0:World)(g n cap a b c:Nat)(D:Nat->aR ds gp)(w:World)(h:SS w0 g n w D)(hn:n<=1000)(hab:a+c<=b)(hb:b+c<=n):
  ar 195 #[aF g n cap,af a,af b,af c,.func (.func 39) #[aw gp] #[]] w (ry w0 g n (dS D a b c)):=by
 have HS:=aa h;clear h;have mixed:Tryz.prog.follows .mixedOrders=true:=by kernel_rfl
 go_enter Tryz.func195,Tryz.ntmps195;go_wp2_with fail;go_loopw [10] (λ iv wr=>∃i:Nat,i<=c/\iv=af i/\SS w0 g n wr (dS D a b i)) (λ iv _=>c - (intOf iv).toNat);case atStart=>exact⟨0,Nat.zero_le _,rfl,by rw[ma];exact HS.ae⟩
 case round=>
  obtain⟨i,hi,rfl,hs⟩:=hrel;have H2:=aa hs;clear hs;by_cases hlt:i < c
  ·have c1:=H2.ae.at_.cell (a+i) WC;have lG:=H2.ae.at_.dH (a+i) WC;have c2:=H2.ae.at_.cell (b+i) WC;have lH:=H2.ae.at_.dH (b+i) WC;have f1:=H2.ae.at_.frozen ((a+i)*2);have f1k:=H2.ae.at_.frozen ((a+i)*2+1);have f2:=H2.ae.at_.frozen ((b+i)*2);have f2k:=H2.ae.at_.frozen ((b+i)*2+1);obtain⟨⟨u1,c3⟩,⟨u2,c4⟩,⟨u3,c5⟩⟩:=H2.ae.second (a+i) (b+i) WC WC (dS D a b i (b+i));have S3:=aa (H2.ae.swap (a+i) (b+i) WC WC);simp only[aR.rv,aR.kv] at c3 c4 c5 S3;go_upto_region 3 with fail;go_big_region_o;clear c1 c2 lG lH c3 c4 c5 f1 f2 f1k f2k;exact Zei
  ·have xm:i=c:=by omega
   subst xm;go_wp2_with fail;exact bodyPost_ret (v:=.tuple #[]) (by simp[results,Tryz.results195,go_sem]) rfl ⟨rfl,H2.ae⟩
def aO (D:Nat->aR ds gp)(s m e:Nat):Nat->aR ds gp:=λ k=>if s<=k/\k < e then(if k < s+(e - m)then D (k+(m - s))else D (k - (e - m)))else D k
theorem rz (D:Nat->aR ds gp)(m i j:Nat)(hi:i<=m)(kY:j < i):aO (dS D (m - i) m j) (m - (i - j)) m (m+j)=aO D (m - i) m (m+j):=by exact ZfX
theorem rB (D:Nat->aR ds gp)(m i j:Nat)(hi:i<=m)(kY:i < j):aO (dS D (m - i) (m+j - i) i) (m - i) m (m+(j - i))=aO D (m - i) m (m+j):=by exact ZfX
theorem rC (D:Nat->aR ds gp)(m i:Nat)(hi:i<=m):dS D (m - i) m i=aO D (m - i) m (m+i):=by exact ZfX
theorem zgd.Kbm(h:p:=by exact bodyPost_ret (v:=.tuple #[]) (by simp[results,Tryz.results166,go_sem]) rfl ⟨rfl,H3.ae⟩):p:=h
theorem cC (w0:World)(g n cap a m b:Nat)(D:Nat->aR ds gp)(w:World)(h:SS w0 g n w D)(hn:n<=1000)(BI:a < m)(BJ:m < b)(hb:b<=n):
  ar 166 #[aF g n cap,af a,af m,af b,.func (.func 39) #[aw gp] #[]] w (ry w0 g n (aO D a m b)):=by
 have HS:=aa h;clear h;go_enter Tryz.func166,Tryz.ntmps166;go_wp2_with fail;go_loopw [10,11] (λ iv jv wr=>∃(i j:Nat) (E:Nat->aR ds gp),0 < i/\0 < j/\a+i<=m/\m+j<=b/\iv=af i/\jv=af j/\SS w0 g n wr E/\aO E (m - i) m (m+j)=aO D a m b) (λ iv jv _=>(intOf iv).toNat+(intOf jv).toNat);case atStart=>exact ZeE
 case round=>
  obtain⟨i,j,E,kB,hj0,hi,hj,rfl,rfl,hs,hr⟩:=hrel;have H2:=aa hs;have HR:=aa hr;clear hs hr;by_cases heq:i=j
  ·open zgd in exact Zdw
  ·exact ZaY
def lt (x y:aR ds gp):Prop:=gC x y < 0
def le (x y:aR ds gp):Prop:=gC x y<=0
theorem le_refl (x:aR ds gp):le x x:=by unfold le;rw[VI];omega
variable{x y z:aR ds gp}
theorem le_trans(h:le x y)(k:le y z):le x z:=QQ _ _ _ h k
theorem le_of_lt(h:lt x y):le x y:=by unfold lt at h;unfold le;omega
theorem not_lt:¬lt x y↔le y x:=by unfold lt le;have:=GM x y;omega
theorem jU(h:le x y)(k:lt y z):lt x z:=by exact ZgP
theorem jV(h:lt x y)(k:le y z):lt x z:=by exact ZgQ
def bc (D:Nat->aR ds gp)(a b:Nat):Prop:=∀i j,a<=i->i < j->j < b->le (D i) (D j)
variable{a b a' b':Nat}
theorem bc.mono(h:bc D a b)(h1:a<=a')(h2:b'<=b):bc D a' b':=λ i j hi hj hb=>h i j WC hj WC
variable{E:Nat->aR ds gp}
theorem bc.congr(h:bc D a b)(he:∀i,a<=i->i < b->E i=D i):bc E a b:=λ i j hi hj hb=>by rw[he i hi WC,he j WC hb];exact h i j hi hj hb
variable{i j:Nat}
theorem bc.le(h:bc D a b)(hi:a<=i)(kY:i<=j)(hj:j < b):le (D i) (D j):=by exact ZgI
theorem bc.none(h:b<=a+1):bc D a b:=λ i j hi hj hb=>by omega
inductive Sw (a b:Nat) (D:Nat->aR ds gp):(Nat->aR ds gp)->Prop
 | refl:Sw a b D D
 | step {E:Nat->aR ds gp} {i j:Nat}:Sw a b D E->a<=i->i < b->a<=j->j < b->Sw a b D (swp E i j)
variable{F:Nat->aR ds gp}
theorem Sw.trans(h:Sw a b D E)(k:Sw a b E F):Sw a b D F:=by exact Zhi
theorem Sw.mono(h:Sw a b D E)(h1:a'<=a)(h2:b<=b'):Sw a' b' D E:=by exact ZfU
theorem Sw.ae(h:Sw a b D E):∀k,k < a\/b<=k->E k=D k:=by exact Ze8
theorem Sw.mem(h:Sw a b D E):∀k,a<=k->k < b->∃k',a<=k'/\k' < b/\E k=D k':=by exact ZdV
theorem Du (D:Nat->aR ds gp)(n i j:Nat)(hi:i < n)(hj:j < n):((List.range n).map (swp D i j)).Perm ((List.range n).map D):=by exact ZbD
theorem Sw.perm(h:Sw a b D E)(hb:b<=n):((List.range n).map E).Perm ((List.range n).map D):=by exact Zf7
theorem iT (D:Nat->aR ds gp)(a b:Nat):∀c,a+c<=b->Sw a (b+c) D (dS D a b c)
 | 0,_=>by rw[ma];exact .refl
 | c+1,h=>by rw[<- mb D a b c WC];exact .step ((iT D a b c WC).mono (Nat.le_refl _) WC) WC WC WC WC
theorem OI (D:Nat->aR ds gp)(m:Nat):∀N i j,i+j<=N->0 < i->0 < j->i<=m->Sw (m - i) (m+j) D (aO D (m - i) m (m+j)):=by exact Zbc
theorem eH (D:Nat->aR ds gp)(s m e:Nat)(h1:s < m)(h2:m < e):Sw s e D (aO D s m e):=by exact Zet
theorem jC (D:Nat->aR ds gp)(m e:Nat):aO D m m e=D:=by exact Zde
theorem iz (D:Nat->aR ds gp)(s m:Nat):aO D s m m=D:=by exact Zde
def Lb (E:Nat->aR ds gp)(a i j:Nat):Prop:=(∀p q,a<=p->p < q->q<=i->p≠j->q≠j->le (E p) (E q))/\∀q,j < q->q<=i->le (E j) (E q)
theorem Lb.start(h:bc D a i):Lb D a i i:=⟨λ p q h1 h2 h3 h4 h5=>h p q h1 h2 WC,λ q h1 h2=>by omega⟩
theorem Lb.step(h:Lb E a i j)(hj:a < j)(Ts:j<=i)(hl:lt (E j) (E (j - 1))):Lb (swp E j (j - 1)) a i (j - 1):=by exact ZbK
theorem Lb.stop(h:Lb E a i j)(hj:a<=j)(hs:j=a\/¬lt (E j) (E (j - 1))):bc E a (i+1):=by exact ZcD
def mf (D:Nat->aR ds gp)(a k:Nat):Nat->aR ds gp:=λ x=>if a<=x/\x < k then D (x+1)else if x=k then D a else D x
theorem oq (D:Nat->aR ds gp)(a:Nat):mf D a a=D:=by funext x;unfold mf;exact Zc9
theorem ot (D:Nat->aR ds gp)(a k:Nat)(h:a<=k):swp (mf D a k) k (k+1)=mf D a (k+1):=by funext x;unfold swp mf;exact Zdd
theorem vR (D:Nat->aR ds gp)(a:Nat):∀d,Sw a (a+d+1) D (mf D a (a+d))
 | 0=>by show Sw a (a+0+1) D (mf D a a);rw[oq];exact .refl
 | d+1=>by rw[show a+(d+1)=a+d+1 by omega,<- ot D a (a+d) WC];exact .step ((vR D a d).mono (Nat.le_refl _) WC) WC WC WC WC
theorem BK(hs:bc D (a+1) b)(hi:a+1<=i)(hib:i<=b)(h1:∀h,a+1<=h->h < i->lt (D h) (D a))(h2:∀h,i<=h->h < b->¬lt (D h) (D a)):bc (mf D a (i - 1)) a b:=by exact ZbC
def nJ (D:Nat->aR ds gp)(k m:Nat):Nat->aR ds gp:=λ x=>if x=k then D m else if k < x/\x<=m then D (x - 1)else D x
theorem ou (D:Nat->aR ds gp)(m:Nat):nJ D m m=D:=by funext x;unfold nJ;exact Zc9
theorem ow (D:Nat->aR ds gp)(k m:Nat)(h0:0 < k)(h:k<=m):swp (nJ D k m) k (k - 1)=nJ D (k - 1) m:=by funext x;unfold swp nJ;exact Zdd
theorem vS (D:Nat->aR ds gp)(m:Nat):∀d,d<=m->Sw (m - d) (m+1) D (nJ D (m - d) m)
 | 0,_=>by rw[Nat.sub_zero,ou];exact .refl
 | d+1,h=>by rw[show m - (d+1)=m - d - 1 by omega,<- ow D (m - d) m WC WC];exact .step ((vS D m d WC).mono WC (Nat.le_refl _)) WC WC WC WC
variable{m:Nat}
theorem BL(hs:bc D a m)(hi:a<=i)(EU:i<=m)(h1:∀h,a<=h->h < i->¬lt (D m) (D h))(h2:∀h,i<=h->h < m->lt (D m) (D h)):bc (nJ D i m) a (m+1):=by exact ZbM
structure Found (D:Nat->aR ds gp) (p s0 r0 s r:Nat):Prop where
 low:∀c,s0<=c->c < s->¬lt (D (p - c)) (D c)
 high:∀c,r<=c->c < r0->lt (D (p - c)) (D c)
structure mg (a m b mid s0 r0:Nat):Prop where
 ab:a < m/\m < b
 arw:mid=(a+b)/ 2
 ends:(m > mid/\s0=mid+m - b/\r0=mid)\/(m<=mid/\s0=a/\r0=m)
variable{mid s0 r0 r c:Nat}
theorem Found.go{s:Nat}(he:mg a m b mid s0 r0)(h1:bc D a m)(h2:bc D m b)(h:Found D (mid+m - 1) s0 r0 s r)(hs:s0<=s)(hr:r<=r0)(hc:s<=c)(hc2:c < r):
  (¬lt (D (mid+m - 1 - c)) (D c)->Found D (mid+m - 1) s0 r0 (c+1) r)/\(lt (D (mid+m - 1 - c)) (D c)->Found D (mid+m - 1) s0 r0 s c):=by exact ZbI
theorem xG{s:Nat}(he:mg a m b mid s0 r0)(h1:bc D a m)(h2:bc D m b)(h:Found D (mid+m - 1) s0 r0 s s)(hs:s0<=s)(hr:s<=r0):
  bc (aO D s m (mid+m - s)) a s/\bc (aO D s m (mid+m - s)) s mid/\bc (aO D s m (mid+m - s)) mid (mid+m - s)/\bc (aO D s m (mid+m - s)) (mid+m - s) b/\
  ∀x y,a<=x->x < mid->mid<=y->y < b->le (aO D s m (mid+m - s) x) (aO D s m (mid+m - s) y):=by exact Zau
theorem dn(hm:a<=mid/\mid<=b)(h:∀x y,a<=x->x < mid->mid<=y->y < b->le (D x) (D y))(k1:Sw a mid D E)(k2:Sw mid b E F)(s1:bc E a mid)(s2:bc F mid b):bc F a b/\Sw a b D F:=by exact Zb7
def aS (w0:World)(g n a b:Nat)(D:Nat->aR ds gp)(e:Ending)(w':World):Prop:=e=.returned (.tuple #[])/\∃E,SS w0 g n w' E/\Sw a b D E/\bc E a b
theorem zbA.Kak(h:p:=by have c1:=H3.ae.at_.cell (jp+1) WC;have lG:=H3.ae.at_.dH (jp+1) WC;have c2:=H3.ae.at_.cell jp WC;have lH:=H3.ae.at_.dH jp WC;have f1:=H3.ae.at_.frozen ((jp+1)*2);have f1k:=H3.ae.at_.frozen ((jp+1)*2+1);have f2:=H3.ae.at_.frozen (jp*2);have f2k:=H3.ae.at_.frozen (jp*2+1);obtain⟨⟨u1,c3⟩,⟨u2,c4⟩,⟨u3,c5⟩⟩:=H3.ae.second (jp+1) jp WC WC (E jp);have S3:=aa (H3.ae.swap (jp+1) jp WC WC);simp only[aR.rv,aR.kv] at c3 c4 c5 S3;go_upto_region 6 with fail;go_big_region_o;clear c1 c2 lG lH c3 c4 c5 f1 f2 f1k f2k;exact Zcz):p:=h
theorem zbB.Kak(h:p:=by exact Zh1):p:=h
theorem zgn.Kbr(h:p:=by
 have lG:=λ q:Ext wr.heap.size wr=>(H2.ae.at_.later q.h).dH (jp+1) WC
 have c2:=λ q:Ext wr.heap.size wr=>(H2.ae.at_.later q.h).cell jp WC
 have lH:=λ q:Ext wr.heap.size wr=>(H2.ae.at_.later q.h).dH jp WC
 have hc:=λ q:Ext wr.heap.size wr=>H2.ae.cmp (jp+1) jp WC WC q.h
 by_cases hl:gC (E (jp+1)) (E jp)< 0
 ·have t2:=decide_eq_true hl;have HL:=aa (show lt (E (jp+1)) (E jp)from hl);clear hl;refine aD 17 wr.heap.size wr (Below.refl _ _) Vx Vx Vx Vx ?_;open zbA in exact ZaC
 ·have t2:=decide_eq_false hl;have HL:=aa (show¬lt (E (jp+1)) (E jp)from hl);clear hl;refine aD 17 wr.heap.size wr (Below.refl _ _) Vx Vx Vx Vx ?_;open zbB in exact ZaC):p:=h
theorem ik (w0:World)(g n cap a b:Nat)(D:Nat->aR ds gp)(w:World)(h:SS w0 g n w D)(hn:n<=1000)(hab:a<=b)(hb:b<=n):
  ar 105 #[aF g n cap,af a,af b,.func (.func 39) #[aw gp] #[]] w (aS w0 g n a b D):=by
 have HS:=aa h;have mixed:Tryz.prog.follows .mixedOrders=true:=by kernel_rfl
 clear h;go_enter Tryz.func105,Tryz.ntmps105;go_wp2_with fail;go_loopw [8] (λ iv wr=>∃(i:Nat) (Kx:Nat->aR ds gp),a < i/\(i<=b\/i=a+1)/\iv=af i/\SS w0 g n wr Kx/\Sw a b D Kx/\bc Kx a i) (λ iv _=>b - (intOf iv).toNat);case atStart=>exact ZhK
 case round=>
  clear HS;obtain⟨i,Kx,kB,hi,rfl,hF,ih,q1⟩:=hrel;have H2:=aa hF;have HW:=aa ih;have EN:=aa q1;clear hF ih q1;by_cases hlt:i < b
  ·go_wp2_with fail;go_loopw [9] (λ jv wr2=>∃(j:Nat) (E:Nat->aR ds gp),a<=j/\j<=i/\jv=af j/\SS w0 g n wr2 E/\Sw a b D E/\Lb E a i j) (λ jv _=>(intOf jv).toNat);case atStart=>exact Zh3
   case round=>
    clear H2 HW EN;obtain⟨j,E,hj0,hj,rfl,hF,ih,q1⟩:=hrel;have H2:=aa hF;have HW:=aa ih;have EN:=aa q1;clear hF ih q1;by_cases hja:a < j
    ·open zgn in exact ZdL
    ·exact Zbu
  ·have HE:=aa (EN.ae.mono (Nat.le_refl a) (show b<=i by omega));go_wp2_with fail;exact bodyPost_ret (v:=.tuple #[]) Tbj rfl ⟨rfl,Kx,H2.ae,HW.ae,HE.ae⟩
theorem zbC.Kak(h:p:=by exact Zfd):p:=h
theorem zbD.Kak(h:p:=by exact ZeB):p:=h
theorem zdW.KaK(h:p:=by
 have c1:=λ q:Ext wr.heap.size wr=>(H2.ae.at_.later q.h).cell (jp) WC
 have lG:=λ q:Ext wr.heap.size wr=>(H2.ae.at_.later q.h).dH (jp) WC
 have c2:=λ q:Ext wr.heap.size wr=>(H2.ae.at_.later q.h).cell (a) WC
 have lH:=λ q:Ext wr.heap.size wr=>(H2.ae.at_.later q.h).dH (a) WC
 have hc:=λ q:Ext wr.heap.size wr=>H2.ae.cmp (jp) (a) WC WC q.h
 by_cases hl:gC (D (jp)) (D (a))< 0
 ·have t2:=decide_eq_true hl;have HX:=aa (show lt (D (jp)) (D (a))from hl);clear hl;refine aD 11 wr.heap.size wr (Below.refl _ _) Vx Vx Vx Vx ?_;open zbC in exact ZaC
 ·have t2:=decide_eq_false hl;have HX:=aa (show¬lt (D (jp)) (D (a))from hl);clear hl;refine aD 11 wr.heap.size wr (Below.refl _ _) Vx Vx Vx Vx ?_;open zbD in exact ZaC):p:=h
theorem zhf.KbN(h:p:=by
 go_loopw [13] (λ kv wr2=>∃k:Nat,a<=k/\k<=j - 1/\kv=af k/\SS w0 g n wr2 (mf D a k)) (λ kv _=>j - (intOf kv).toNat);case atStart=>exact Ziv
 case round=>
  clear H2;obtain⟨k,WK,hk,rfl,hs⟩:=hrel;have H2:=aa hs;clear hs;by_cases hlt:k < j - 1
  ·have t2:decide ((k:Int)<((j - 1:Nat):Int))=true:=decide_eq_true WC;have c1:=H2.ae.at_.cell (k) WC;have lG:=H2.ae.at_.dH (k) WC;have c2:=H2.ae.at_.cell (k+1) WC;have lH:=H2.ae.at_.dH (k+1) WC;have f1:=H2.ae.at_.frozen ((k)*2);have f1k:=H2.ae.at_.frozen ((k)*2+1);have f2:=H2.ae.at_.frozen ((k+1)*2);have f2k:=H2.ae.at_.frozen ((k+1)*2+1);obtain⟨⟨u1,c3⟩,⟨u2,c4⟩,⟨u3,c5⟩⟩:=H2.ae.second (k) (k+1) WC WC (mf D a k (k+1));have S3:=aa (H2.ae.swap (k) (k+1) WC WC);simp only[aR.rv,aR.kv] at c3 c4 c5 S3;go_upto_region 11 with fail;go_big_region_o;clear c1 c2 lG lH c3 c4 c5 f1 f2 f1k f2k;exact Zdy
  ·have t2:decide ((k:Int)<((j - 1:Nat):Int))=false:=decide_eq_false WC;have xm:k=j - 1:=by omega
   exact Zfo):p:=h
theorem zhK.Kb0(h:p:=by
 by_cases hlt:i < j
 ·go_upto_region 5 with fail;open zdW in exact Zbp
 ·open zhf in exact ZeP):p:=h
theorem JB (w0:World)(g n cap a b:Nat)(D:Nat->aR ds gp)(w:World)(h:SS w0 g n w D)(hn:n<=1000)(hab:a+1 < b)(hb:b<=n)(q5:bc D (a+1) b):
  ar 106 #[aF g n cap,af a,af (a+1),af b,.func (.func 39) #[aw gp] #[]] w (aS w0 g n a b D):=by
 have HS:=aa h;have Q5:=aa q5;have mixed:Tryz.prog.follows .mixedOrders=true:=by kernel_rfl
 clear h q5;have t1:((a:Int)+1 - (a:Int)==1)=true:=by simp;omega
 go_enter Tryz.func106,Tryz.ntmps106;go_wp2_with fail;clear t1;go_loopw [10,11] (λ iv jv wr=>∃i j:Nat,a+1<=i/\i<=j/\j<=b/\iv=af i/\jv=af j/\SS w0 g n wr D/\(∀h,a+1<=h->h < i->lt (D h) (D a))/\∀h,j<=h->h < b->¬lt (D h) (D a)) (λ iv jv _=>(intOf jv).toNat - (intOf iv).toNat);case atStart=>exact Zgj
 case round=>
  open zhK in exact Ze6
theorem zbE.Kak(h:p:=by exact ZfW):p:=h
theorem zbF.Kak(h:p:=by exact Zem):p:=h
theorem zdX.KaK(h:p:=by
 have c1:=λ q:Ext wr.heap.size wr=>(H2.ae.at_.later q.h).cell (m) WC
 have lG:=λ q:Ext wr.heap.size wr=>(H2.ae.at_.later q.h).dH (m) WC
 have c2:=λ q:Ext wr.heap.size wr=>(H2.ae.at_.later q.h).cell (jp) WC
 have lH:=λ q:Ext wr.heap.size wr=>(H2.ae.at_.later q.h).dH (jp) WC
 have hc:=λ q:Ext wr.heap.size wr=>H2.ae.cmp (m) (jp) WC WC q.h
 by_cases hl:gC (D (m)) (D (jp))< 0
 ·have t2:=decide_eq_true hl;have HX:=aa (show lt (D (m)) (D (jp))from hl);clear hl;refine aD 12 wr.heap.size wr (Below.refl _ _) Vx Vx Vx Vx ?_;open zbE in exact ZaC
 ·have t2:=decide_eq_false hl;have HX:=aa (show¬lt (D (m)) (D (jp))from hl);clear hl;refine aD 12 wr.heap.size wr (Below.refl _ _) Vx Vx Vx Vx ?_;open zbF in exact ZaC):p:=h
theorem zh4.Kb6(h:p:=by have lG:=H2.ae.at_.dH (kp+1) WC;have c2:=H2.ae.at_.cell (kp) WC;have lH:=H2.ae.at_.dH (kp) WC;have f1:=H2.ae.at_.frozen ((kp+1)*2);have f1k:=H2.ae.at_.frozen ((kp+1)*2+1);have f2:=H2.ae.at_.frozen ((kp)*2);have f2k:=H2.ae.at_.frozen ((kp)*2+1);obtain⟨⟨u1,c3⟩,⟨u2,c4⟩,⟨u3,c5⟩⟩:=H2.ae.second (kp+1) (kp) WC WC (nJ D (kp+1) m (kp));have S3:=aa (H2.ae.swap (kp+1) (kp) WC WC);simp only[aR.rv,aR.kv] at c3 c4 c5 S3;go_upto_region 23 with fail;go_big_region_o;clear c1 c2 lG lH c3 c4 c5 f1 f2 f1k f2k;exact Zc0):p:=h
theorem zhC.KbX(h:p:=by
 go_loopw [17] (λ kv wr2=>∃k:Nat,j<=k/\k<=m/\kv=af k/\SS w0 g n wr2 (nJ D k m)) (λ kv _=>(intOf kv).toNat);case atStart=>exact⟨m,by omega,by omega,rfl,by rw[ou];exact H2.ae⟩
 case round=>
  clear H2;obtain⟨k,WK,hk,rfl,hs⟩:=hrel;have H2:=aa hs;clear hs;by_cases hlt:j < k
  ·open zh4 in exact Zfi
  ·have t2:decide ((j:Int)<(k:Int))=false:=decide_eq_false WC;have xm:k=j:=by omega
   exact Zfo):p:=h
theorem zhL.Kb0(h:p:=by
 by_cases hlt:i < j
 ·go_upto_region 17 with fail;open zdX in exact Zbp
 ·open zhC in exact Ze3):p:=h
theorem ziy.Kci(h:p:=by
 go_enter Tryz.func106,Tryz.ntmps106;go_wp2_with fail;clear t0 t1;go_loopw [14,15] (λ iv jv wr=>∃i j:Nat,a<=i/\i<=j/\j<=m/\iv=af i/\jv=af j/\SS w0 g n wr D/\(∀h,a<=h->h < i->¬lt (D m) (D h))/\∀h,j<=h->h < m->lt (D m) (D h)) (λ iv jv _=>(intOf jv).toNat - (intOf iv).toNat);case atStart=>exact Zhf
 case round=>
  open zhL in exact Ze6):p:=h
theorem JC (w0:World)(g n cap a m:Nat)(D:Nat->aR ds gp)(w:World)(h:SS w0 g n w D)(hn:n<=1000)(hab:a+1 < m)(hb:m+1<=n)(q5:bc D a m):
  ar 106 #[aF g n cap,af a,af m,af (m+1),.func (.func 39) #[aw gp] #[]] w (aS w0 g n a (m+1) D):=by
 open ziy in exact Zga
theorem Found.goP{s p:Nat}(hp:p=mid+m - 1)(he:mg a m b mid s0 r0)(h1:bc D a m)(h2:bc D m b)(h:Found D p s0 r0 s r)(hs:s0<=s)(hr:r<=r0)(hc:s<=c)(hc2:c < r):
  (¬lt (D (p - c)) (D c)->Found D p s0 r0 (c+1) r)/\(lt (D (p - c)) (D c)->Found D p s0 r0 s c):=by subst hp;exact Found.go he h1 h2 h hs hr hc hc2
variable{f:Nat}
theorem mD{s p:Nat}(hp:p=mid+m - 1)(hf:f=mid+m - s)(he:mg a m b mid s0 r0)(h1:bc D a m)(h2:bc D m b)(h:Found D p s0 r0 s s)(hs:s0<=s)(hr:s<=r0):
  bc (aO D s m f) a s/\bc (aO D s m f) s mid/\bc (aO D s m f) mid f/\bc (aO D s m f) f b/\
  ∀x y,a<=x->x < mid->mid<=y->y < b->le (aO D s m f x) (aO D s m f y):=by subst hp hf;exact xG he h1 h2 h hs hr
theorem zaD.Kad(h:p:=by exact Zcc):p:=h
theorem zdk.KaF(h:p:=by
 go_loopw [20,21] (λ sv rv wr=>∃i j:Nat,s0<=i/\i<=s/\s<=j/\j<=r0/\sv=af i/\rv=af j/\SS w0 g n wr D) (λ sv rv _=>(intOf rv).toNat - (intOf sv).toNat);case atStart=>exact Zbw
 case round=>
  clear HS;obtain⟨i,j,iM,hi,hj,nQ,rfl,rfl,hs⟩:=hrel;have H2:=aa hs;clear hs;by_cases hlt:i < j
  ·exact ZU
  ·open zaD in exact Zaj):p:=h
theorem za8.Kah(h:p:=by
 have zs:(mid:Int)+(m:Int) - (b:Int)=(s0:Int):=by omega
 open zdk in exact Zbk):p:=h
theorem yF (w0:World)(g n cap a m b mid p s f s0 r0:Nat)(D:Nat->aR ds gp)(w:World)(h:SS w0 g n w D)(hn:n<=1000)(BI:a+1 < m)(BJ:m+1 < b)(hb:b<=n)(cE:mid=(a+b)/ 2)(hp:p=mid+m - 1)(hf:f=mid+m - s)(iq:s0=mid+m - b)(fy:r0=mid)(xz:mid < m)
  (hs0:s0<=s) (kz:s<=r0) (hF:Found D p s0 r0 s s) (q1:bc (aO D s m f) a s) (q2:bc (aO D s m f) s mid) (q3:bc (aO D s m f) mid f) (q4:bc (aO D s m f) f b) (q5:∀x y,a<=x->x < mid->mid<=y->y < b->le (aO D s m f x) (aO D s m f y)) (k0:s < m) (k1:m < f) (k2:a < s) (k3:s < mid) (k4:mid < f) (k5:f < b)
  (ih:∀a' m' b' (E:Nat->aR ds gp) W,a' < m'->m' < b'->b'<=n->b' - a' < b - a->SS w0 g n W E->bc E a' m'->bc E m' b'->ar 106 #[aF g n cap,af (a':Nat),af (m':Nat),af (b':Nat),.func (.func 39) #[aw gp] #[]] W (aS w0 g n a' b' E)):
  ar 106 #[aF g n cap,af a,af m,af b,.func (.func 39) #[aw gp] #[]] w (aS w0 g n a b D):=by
 open za8 in exact Zax
theorem zaH.Kae(h:p:=by exact ZbT):p:=h
theorem zdl.KaF(h:p:=by
 go_loopw [20,21] (λ sv rv wr=>∃i j:Nat,s0<=i/\i<=s/\s<=j/\j<=r0/\sv=af i/\rv=af j/\SS w0 g n wr D) (λ sv rv _=>(intOf rv).toNat - (intOf sv).toNat);case atStart=>exact Zbw
 case round=>
  clear HS;obtain⟨i,j,iM,hi,hj,nQ,rfl,rfl,hs⟩:=hrel;have H2:=aa hs;clear hs;by_cases hlt:i < j
  ·exact ZU
  ·open zaH in exact Zak):p:=h
theorem za9.Kah(h:p:=by
 have zs:(mid:Int)+(m:Int) - (b:Int)=(s0:Int):=by omega
 open zdl in exact Zbk):p:=h
theorem yG (w0:World)(g n cap a m b mid p s f s0 r0:Nat)(D:Nat->aR ds gp)(w:World)(h:SS w0 g n w D)(hn:n<=1000)(BI:a+1 < m)(BJ:m+1 < b)(hb:b<=n)(cE:mid=(a+b)/ 2)(hp:p=mid+m - 1)(hf:f=mid+m - s)(iq:s0=mid+m - b)(fy:r0=mid)(xz:mid < m)
  (hs0:s0<=s) (kz:s<=r0) (hF:Found D p s0 r0 s s) (q1:bc (aO D s m f) a s) (q2:bc (aO D s m f) s mid) (q3:bc (aO D s m f) mid f) (q4:bc (aO D s m f) f b) (q5:∀x y,a<=x->x < mid->mid<=y->y < b->le (aO D s m f x) (aO D s m f y)) (k0:s < m) (k1:m < f) (k2:a < s) (k3:s < mid) (k4:mid < f) (k5:¬(f < b))
  (ih:∀a' m' b' (E:Nat->aR ds gp) W,a' < m'->m' < b'->b'<=n->b' - a' < b - a->SS w0 g n W E->bc E a' m'->bc E m' b'->ar 106 #[aF g n cap,af (a':Nat),af (m':Nat),af (b':Nat),.func (.func 39) #[aw gp] #[]] W (aS w0 g n a' b' E)):
  ar 106 #[aF g n cap,af a,af m,af b,.func (.func 39) #[aw gp] #[]] w (aS w0 g n a b D):=by
 open za9 in exact Zax
theorem zav.Kab(h:p:=by exact Zcc):p:=h
theorem zdm.KaF(h:p:=by
 go_loopw [20,21] (λ sv rv wr=>∃i j:Nat,s0<=i/\i<=s/\s<=j/\j<=r0/\sv=af i/\rv=af j/\SS w0 g n wr D) (λ sv rv _=>(intOf rv).toNat - (intOf sv).toNat);case atStart=>exact Zbw
 case round=>
  clear HS;obtain⟨i,j,iM,hi,hj,nQ,rfl,rfl,hs⟩:=hrel;have H2:=aa hs;clear hs;by_cases hlt:i < j
  ·exact ZU
  ·open zav in exact Zah):p:=h
theorem zba.Kah(h:p:=by
 have zs:(mid:Int)+(m:Int) - (b:Int)=(s0:Int):=by omega
 open zdm in exact Zbk):p:=h
theorem yH (w0:World)(g n cap a m b mid p s f s0 r0:Nat)(D:Nat->aR ds gp)(w:World)(h:SS w0 g n w D)(hn:n<=1000)(BI:a+1 < m)(BJ:m+1 < b)(hb:b<=n)(cE:mid=(a+b)/ 2)(hp:p=mid+m - 1)(hf:f=mid+m - s)(iq:s0=mid+m - b)(fy:r0=mid)(xz:mid < m)
  (hs0:s0<=s) (kz:s<=r0) (hF:Found D p s0 r0 s s) (q1:bc (aO D s m f) a s) (q2:bc (aO D s m f) s mid) (q3:bc (aO D s m f) mid f) (q4:bc (aO D s m f) f b) (q5:∀x y,a<=x->x < mid->mid<=y->y < b->le (aO D s m f x) (aO D s m f y)) (k0:s < m) (k1:m < f) (k2:¬(a < s)) (k3:s < mid) (k4:mid < f) (k5:f < b)
  (ih:∀a' m' b' (E:Nat->aR ds gp) W,a' < m'->m' < b'->b'<=n->b' - a' < b - a->SS w0 g n W E->bc E a' m'->bc E m' b'->ar 106 #[aF g n cap,af (a':Nat),af (m':Nat),af (b':Nat),.func (.func 39) #[aw gp] #[]] W (aS w0 g n a' b' E)):
  ar 106 #[aF g n cap,af a,af m,af b,.func (.func 39) #[aw gp] #[]] w (aS w0 g n a b D):=by
 open zba in exact Zax
theorem zaz.Kac(h:p:=by exact ZbT):p:=h
theorem zdn.KaF(h:p:=by
 go_loopw [20,21] (λ sv rv wr=>∃i j:Nat,s0<=i/\i<=s/\s<=j/\j<=r0/\sv=af i/\rv=af j/\SS w0 g n wr D) (λ sv rv _=>(intOf rv).toNat - (intOf sv).toNat);case atStart=>exact Zbw
 case round=>
  clear HS;obtain⟨i,j,iM,hi,hj,nQ,rfl,rfl,hs⟩:=hrel;have H2:=aa hs;clear hs;by_cases hlt:i < j
  ·exact ZU
  ·open zaz in exact Zai):p:=h
theorem zbb.Kah(h:p:=by
 have zs:(mid:Int)+(m:Int) - (b:Int)=(s0:Int):=by omega
 open zdn in exact Zbk):p:=h
theorem yI (w0:World)(g n cap a m b mid p s f s0 r0:Nat)(D:Nat->aR ds gp)(w:World)(h:SS w0 g n w D)(hn:n<=1000)(BI:a+1 < m)(BJ:m+1 < b)(hb:b<=n)(cE:mid=(a+b)/ 2)(hp:p=mid+m - 1)(hf:f=mid+m - s)(iq:s0=mid+m - b)(fy:r0=mid)(xz:mid < m)
  (hs0:s0<=s) (kz:s<=r0) (hF:Found D p s0 r0 s s) (q1:bc (aO D s m f) a s) (q2:bc (aO D s m f) s mid) (q3:bc (aO D s m f) mid f) (q4:bc (aO D s m f) f b) (q5:∀x y,a<=x->x < mid->mid<=y->y < b->le (aO D s m f x) (aO D s m f y)) (k0:s < m) (k1:m < f) (k2:¬(a < s)) (k3:s < mid) (k4:mid < f) (k5:¬(f < b))
  (ih:∀a' m' b' (E:Nat->aR ds gp) W,a' < m'->m' < b'->b'<=n->b' - a' < b - a->SS w0 g n W E->bc E a' m'->bc E m' b'->ar 106 #[aF g n cap,af (a':Nat),af (m':Nat),af (b':Nat),.func (.func 39) #[aw gp] #[]] W (aS w0 g n a' b' E)):
  ar 106 #[aF g n cap,af a,af m,af b,.func (.func 39) #[aw gp] #[]] w (aS w0 g n a b D):=by
 open zbb in exact Zax
theorem zaE.Kad(h:p:=by exact Zcc):p:=h
theorem zdo.KaF(h:p:=by
 go_loopw [20,21] (λ sv rv wr=>∃i j:Nat,s0<=i/\i<=s/\s<=j/\j<=r0/\sv=af i/\rv=af j/\SS w0 g n wr D) (λ sv rv _=>(intOf rv).toNat - (intOf sv).toNat);case atStart=>exact Za7
 case round=>
  clear HS;obtain⟨i,j,iM,hi,hj,nQ,rfl,rfl,hs⟩:=hrel;have H2:=aa hs;clear hs;by_cases hlt:i < j
  ·exact ZU
  ·open zaE in exact Zaj):p:=h
theorem zbc.Kah(h:p:=by
 have zs:(0:Int)=0:=by omega
 open zdo in exact Zbk):p:=h
theorem yJ (w0:World)(g n cap a m b mid p s f s0 r0:Nat)(D:Nat->aR ds gp)(w:World)(h:SS w0 g n w D)(hn:n<=1000)(BI:a+1 < m)(BJ:m+1 < b)(hb:b<=n)(cE:mid=(a+b)/ 2)(hp:p=mid+m - 1)(hf:f=mid+m - s)(iq:s0=a)(fy:r0=m)(xz:¬(mid < m))
  (hs0:s0<=s) (kz:s<=r0) (hF:Found D p s0 r0 s s) (q1:bc (aO D s m f) a s) (q2:bc (aO D s m f) s mid) (q3:bc (aO D s m f) mid f) (q4:bc (aO D s m f) f b) (q5:∀x y,a<=x->x < mid->mid<=y->y < b->le (aO D s m f x) (aO D s m f y)) (k0:s < m) (k1:m < f) (k2:a < s) (k3:s < mid) (k4:mid < f) (k5:f < b)
  (ih:∀a' m' b' (E:Nat->aR ds gp) W,a' < m'->m' < b'->b'<=n->b' - a' < b - a->SS w0 g n W E->bc E a' m'->bc E m' b'->ar 106 #[aF g n cap,af (a':Nat),af (m':Nat),af (b':Nat),.func (.func 39) #[aw gp] #[]] W (aS w0 g n a' b' E)):
  ar 106 #[aF g n cap,af a,af m,af b,.func (.func 39) #[aw gp] #[]] w (aS w0 g n a b D):=by
 open zbc in exact Zax
theorem zaI.Kae(h:p:=by exact ZbT):p:=h
theorem zdp.KaF(h:p:=by
 go_loopw [20,21] (λ sv rv wr=>∃i j:Nat,s0<=i/\i<=s/\s<=j/\j<=r0/\sv=af i/\rv=af j/\SS w0 g n wr D) (λ sv rv _=>(intOf rv).toNat - (intOf sv).toNat);case atStart=>exact Za7
 case round=>
  clear HS;obtain⟨i,j,iM,hi,hj,nQ,rfl,rfl,hs⟩:=hrel;have H2:=aa hs;clear hs;by_cases hlt:i < j
  ·exact ZU
  ·open zaI in exact Zak):p:=h
theorem zbd.Kah(h:p:=by
 have zs:(0:Int)=0:=by omega
 open zdp in exact Zbk):p:=h
theorem yK (w0:World)(g n cap a m b mid p s f s0 r0:Nat)(D:Nat->aR ds gp)(w:World)(h:SS w0 g n w D)(hn:n<=1000)(BI:a+1 < m)(BJ:m+1 < b)(hb:b<=n)(cE:mid=(a+b)/ 2)(hp:p=mid+m - 1)(hf:f=mid+m - s)(iq:s0=a)(fy:r0=m)(xz:¬(mid < m))
  (hs0:s0<=s) (kz:s<=r0) (hF:Found D p s0 r0 s s) (q1:bc (aO D s m f) a s) (q2:bc (aO D s m f) s mid) (q3:bc (aO D s m f) mid f) (q4:bc (aO D s m f) f b) (q5:∀x y,a<=x->x < mid->mid<=y->y < b->le (aO D s m f x) (aO D s m f y)) (k0:s < m) (k1:m < f) (k2:a < s) (k3:s < mid) (k4:mid < f) (k5:¬(f < b))
  (ih:∀a' m' b' (E:Nat->aR ds gp) W,a' < m'->m' < b'->b'<=n->b' - a' < b - a->SS w0 g n W E->bc E a' m'->bc E m' b'->ar 106 #[aF g n cap,af (a':Nat),af (m':Nat),af (b':Nat),.func (.func 39) #[aw gp] #[]] W (aS w0 g n a' b' E)):
  ar 106 #[aF g n cap,af a,af m,af b,.func (.func 39) #[aw gp] #[]] w (aS w0 g n a b D):=by
 open zbd in exact Zax
theorem zaw.Kab(h:p:=by exact Zcc):p:=h
theorem zdq.KaF(h:p:=by
 go_loopw [20,21] (λ sv rv wr=>∃i j:Nat,s0<=i/\i<=s/\s<=j/\j<=r0/\sv=af i/\rv=af j/\SS w0 g n wr D) (λ sv rv _=>(intOf rv).toNat - (intOf sv).toNat);case atStart=>exact Za7
 case round=>
  clear HS;obtain⟨i,j,iM,hi,hj,nQ,rfl,rfl,hs⟩:=hrel;have H2:=aa hs;clear hs;by_cases hlt:i < j
  ·exact ZU
  ·open zaw in exact Zah):p:=h
theorem zbe.Kah(h:p:=by
 have zs:(0:Int)=0:=by omega
 open zdq in exact Zbk):p:=h
theorem yL (w0:World)(g n cap a m b mid p s f s0 r0:Nat)(D:Nat->aR ds gp)(w:World)(h:SS w0 g n w D)(hn:n<=1000)(BI:a+1 < m)(BJ:m+1 < b)(hb:b<=n)(cE:mid=(a+b)/ 2)(hp:p=mid+m - 1)(hf:f=mid+m - s)(iq:s0=a)(fy:r0=m)(xz:¬(mid < m))
  (hs0:s0<=s) (kz:s<=r0) (hF:Found D p s0 r0 s s) (q1:bc (aO D s m f) a s) (q2:bc (aO D s m f) s mid) (q3:bc (aO D s m f) mid f) (q4:bc (aO D s m f) f b) (q5:∀x y,a<=x->x < mid->mid<=y->y < b->le (aO D s m f x) (aO D s m f y)) (k0:s < m) (k1:m < f) (k2:¬(a < s)) (k3:s < mid) (k4:mid < f) (k5:f < b)
  (ih:∀a' m' b' (E:Nat->aR ds gp) W,a' < m'->m' < b'->b'<=n->b' - a' < b - a->SS w0 g n W E->bc E a' m'->bc E m' b'->ar 106 #[aF g n cap,af (a':Nat),af (m':Nat),af (b':Nat),.func (.func 39) #[aw gp] #[]] W (aS w0 g n a' b' E)):
  ar 106 #[aF g n cap,af a,af m,af b,.func (.func 39) #[aw gp] #[]] w (aS w0 g n a b D):=by
 open zbe in exact Zax
theorem zaA.Kac(h:p:=by exact ZbT):p:=h
theorem zdr.KaF(h:p:=by
 go_loopw [20,21] (λ sv rv wr=>∃i j:Nat,s0<=i/\i<=s/\s<=j/\j<=r0/\sv=af i/\rv=af j/\SS w0 g n wr D) (λ sv rv _=>(intOf rv).toNat - (intOf sv).toNat);case atStart=>exact Za7
 case round=>
  clear HS;obtain⟨i,j,iM,hi,hj,nQ,rfl,rfl,hs⟩:=hrel;have H2:=aa hs;clear hs;by_cases hlt:i < j
  ·exact ZU
  ·open zaA in exact Zai):p:=h
theorem zbf.Kah(h:p:=by
 have zs:(0:Int)=0:=by omega
 open zdr in exact Zbk):p:=h
theorem yM (w0:World)(g n cap a m b mid p s f s0 r0:Nat)(D:Nat->aR ds gp)(w:World)(h:SS w0 g n w D)(hn:n<=1000)(BI:a+1 < m)(BJ:m+1 < b)(hb:b<=n)(cE:mid=(a+b)/ 2)(hp:p=mid+m - 1)(hf:f=mid+m - s)(iq:s0=a)(fy:r0=m)(xz:¬(mid < m))
  (hs0:s0<=s) (kz:s<=r0) (hF:Found D p s0 r0 s s) (q1:bc (aO D s m f) a s) (q2:bc (aO D s m f) s mid) (q3:bc (aO D s m f) mid f) (q4:bc (aO D s m f) f b) (q5:∀x y,a<=x->x < mid->mid<=y->y < b->le (aO D s m f x) (aO D s m f y)) (k0:s < m) (k1:m < f) (k2:¬(a < s)) (k3:s < mid) (k4:mid < f) (k5:¬(f < b))
  (ih:∀a' m' b' (E:Nat->aR ds gp) W,a' < m'->m' < b'->b'<=n->b' - a' < b - a->SS w0 g n W E->bc E a' m'->bc E m' b'->ar 106 #[aF g n cap,af (a':Nat),af (m':Nat),af (b':Nat),.func (.func 39) #[aw gp] #[]] W (aS w0 g n a' b' E)):
  ar 106 #[aF g n cap,af a,af m,af b,.func (.func 39) #[aw gp] #[]] w (aS w0 g n a b D):=by
 open zbf in exact Zax
theorem zci.Kar(h:p:=by exact Zcc):p:=h
theorem zev.KaQ(h:p:=by clear e1 H2;open zci in exact ZaK):p:=h
theorem ziS.Kcr(h:p:=by have Nf:decide (f < b)=true:=decide_eq_true k5;open zev in exact ZbL):p:=h
theorem zfT.Kbf(h:p:=by open ziS in exact ZgJ):p:=h
theorem zds.KaF(h:p:=by
 go_loopw [20,21] (λ sv rv wr=>∃i j:Nat,s0<=i/\i<=s/\s<=j/\j<=r0/\sv=af i/\rv=af j/\SS w0 g n wr D) (λ sv rv _=>(intOf rv).toNat - (intOf sv).toNat);case atStart=>exact Zbw
 case round=>
  clear HS;obtain⟨i,j,iM,hi,hj,nQ,rfl,rfl,hs⟩:=hrel;have H2:=aa hs;clear hs;by_cases hlt:i < j
  ·exact ZU
  ·open zfT in exact Zdc):p:=h
theorem zbg.Kah(h:p:=by
 have zs:(mid:Int)+(m:Int) - (b:Int)=(s0:Int):=by omega
 open zds in exact Zbk):p:=h
theorem JD (w0:World)(g n cap a m b mid p s f s0 r0:Nat)(D:Nat->aR ds gp)(w:World)(h:SS w0 g n w D)(hn:n<=1000)(BI:a+1 < m)(BJ:m+1 < b)(hb:b<=n)(cE:mid=(a+b)/ 2)(hp:p=mid+m - 1)(hf:f=mid+m - s)(iq:s0=mid+m - b)(fy:r0=mid)(xz:mid < m)
  (hs0:s0<=s) (kz:s<=r0) (hF:Found D p s0 r0 s s) (q1:bc (aO D s m f) a s) (q2:bc (aO D s m f) s mid) (q3:bc (aO D s m f) mid f) (q4:bc (aO D s m f) f b) (q5:∀x y,a<=x->x < mid->mid<=y->y < b->le (aO D s m f x) (aO D s m f y)) (k0:s < m) (k1:¬(m < f)) (k2:a < s) (k3:¬(s < mid)) (k4:mid < f) (k5:f < b)
  (ih:∀a' m' b' (E:Nat->aR ds gp) W,a' < m'->m' < b'->b'<=n->b' - a' < b - a->SS w0 g n W E->bc E a' m'->bc E m' b'->ar 106 #[aF g n cap,af (a':Nat),af (m':Nat),af (b':Nat),.func (.func 39) #[aw gp] #[]] W (aS w0 g n a' b' E)):
  ar 106 #[aF g n cap,af a,af m,af b,.func (.func 39) #[aw gp] #[]] w (aS w0 g n a b D):=by
 open zbg in exact Zax
theorem zc1.Kaz(h:p:=by exact ZbT):p:=h
theorem zdt.KaF(h:p:=by
 go_loopw [20,21] (λ sv rv wr=>∃i j:Nat,s0<=i/\i<=s/\s<=j/\j<=r0/\sv=af i/\rv=af j/\SS w0 g n wr D) (λ sv rv _=>(intOf rv).toNat - (intOf sv).toNat);case atStart=>exact Za7
 case round=>
  clear HS;obtain⟨i,j,iM,hi,hj,nQ,rfl,rfl,hs⟩:=hrel;have H2:=aa hs;clear hs;by_cases hlt:i < j
  ·exact ZU
  ·open zc1 in exact ZaU):p:=h
theorem zbh.Kah(h:p:=by
 have zs:(0:Int)=0:=by omega
 open zdt in exact Zbk):p:=h
theorem Dv (w0:World)(g n cap a m b mid p s f s0 r0:Nat)(D:Nat->aR ds gp)(w:World)(h:SS w0 g n w D)(hn:n<=1000)(BI:a+1 < m)(BJ:m+1 < b)(hb:b<=n)(cE:mid=(a+b)/ 2)(hp:p=mid+m - 1)(hf:f=mid+m - s)(iq:s0=a)(fy:r0=m)(xz:¬(mid < m))
  (hs0:s0<=s) (kz:s<=r0) (hF:Found D p s0 r0 s s) (q1:bc (aO D s m f) a s) (q2:bc (aO D s m f) s mid) (q3:bc (aO D s m f) mid f) (q4:bc (aO D s m f) f b) (q5:∀x y,a<=x->x < mid->mid<=y->y < b->le (aO D s m f x) (aO D s m f y)) (k0:¬(s < m)) (k2:a < s) (k3:s < mid) (Kx:¬(mid < f))
  (ih:∀a' m' b' (E:Nat->aR ds gp) W,a' < m'->m' < b'->b'<=n->b' - a' < b - a->SS w0 g n W E->bc E a' m'->bc E m' b'->ar 106 #[aF g n cap,af (a':Nat),af (m':Nat),af (b':Nat),.func (.func 39) #[aw gp] #[]] W (aS w0 g n a' b' E)):
  ar 106 #[aF g n cap,af a,af m,af b,.func (.func 39) #[aw gp] #[]] w (aS w0 g n a b D):=by
 open zbh in exact Zax
theorem zcC.Kau(h:p:=by exact ZbT):p:=h
theorem zew.KaQ(h:p:=by clear e1 H2;open zcC in exact ZaN):p:=h
theorem zgq.Kbs(h:p:=by have EM:decide (s < mid)=false:=decide_eq_false k3;have KK:decide (mid < f)=false:=decide_eq_false Kx;open zew in exact ZbL):p:=h
theorem zdu.KaF(h:p:=by
 go_loopw [20,21] (λ sv rv wr=>∃i j:Nat,s0<=i/\i<=s/\s<=j/\j<=r0/\sv=af i/\rv=af j/\SS w0 g n wr D) (λ sv rv _=>(intOf rv).toNat - (intOf sv).toNat);case atStart=>exact Za7
 case round=>
  clear HS;obtain⟨i,j,iM,hi,hj,nQ,rfl,rfl,hs⟩:=hrel;have H2:=aa hs;clear hs;by_cases hlt:i < j
  ·exact ZU
  ·open zgq in exact ZdO):p:=h
theorem zbi.Kah(h:p:=by
 have zs:(0:Int)=0:=by omega
 open zdu in exact Zbk):p:=h
theorem Dw (w0:World)(g n cap a m b mid p s f s0 r0:Nat)(D:Nat->aR ds gp)(w:World)(h:SS w0 g n w D)(hn:n<=1000)(BI:a+1 < m)(BJ:m+1 < b)(hb:b<=n)(cE:mid=(a+b)/ 2)(hp:p=mid+m - 1)(hf:f=mid+m - s)(iq:s0=a)(fy:r0=m)(xz:¬(mid < m))
  (hs0:s0<=s) (kz:s<=r0) (hF:Found D p s0 r0 s s) (q1:bc (aO D s m f) a s) (q2:bc (aO D s m f) s mid) (q3:bc (aO D s m f) mid f) (q4:bc (aO D s m f) f b) (q5:∀x y,a<=x->x < mid->mid<=y->y < b->le (aO D s m f x) (aO D s m f y)) (k0:¬(s < m)) (k2:a < s) (k3:¬(s < mid)) (Kx:¬(mid < f))
  (ih:∀a' m' b' (E:Nat->aR ds gp) W,a' < m'->m' < b'->b'<=n->b' - a' < b - a->SS w0 g n W E->bc E a' m'->bc E m' b'->ar 106 #[aF g n cap,af (a':Nat),af (m':Nat),af (b':Nat),.func (.func 39) #[aw gp] #[]] W (aS w0 g n a' b' E)):
  ar 106 #[aF g n cap,af a,af m,af b,.func (.func 39) #[aw gp] #[]] w (aS w0 g n a b D):=by
 open zbi in exact Zax
theorem mE{p:Nat}(hp:p=mid+m - 1)(he:mg a m b mid s0 r0)(h1:bc D a m)(h2:bc D m b)(WY:s0<=r0):∃s,s0<=s/\s<=r0/\Found D p s0 r0 s s:=by
 have key:∀d s,r0 - s<=d->s0<=s->s<=r0->Found D p s0 r0 s r0->∃s,s0<=s/\s<=r0/\Found D p s0 r0 s s:=by
  intro d
  induction d with
  | zero=>exact Zhk
  | succ d ih=>
    intro s h3 h4 h5 h6;by_cases hs:s=r0
    ·exact⟨s,h4,h5,by rw[<- hs] at h6 ⊢;exact h6⟩
    ·have k:=Found.goP hp he h1 h2 h6 h4 (Nat.le_refl _) (Nat.le_refl s) WC;exact ZfY
 exact Zhd
theorem zi8.Kcx(h:p:=by
 have ih':∀a' m' b' (E:Nat->aR ds gp) W,a' < m'->m' < b'->b'<=n->b' - a' < b - a->SS w0 g n W E->bc E a' m'->bc E m' b'->ar 106 #[aF g n cap,af (a':Nat),af (m':Nat),af (b':Nat),.func (.func 39) #[aw gp] #[]] W (aS w0 g n a' b' E):=
  λ a' m' b' E W k1 k2 k3 k4 k5 k6 k7=>ih a' m' b' E W WC k1 k2 k3 k5 k6 k7
 exact Zan):p:=h
theorem wW (w0:World)(g n cap:Nat)(hn:n<=1000):∀(N a m b:Nat) (D:Nat->aR ds gp) (w:World),b - a<=N->a < m->m < b->b<=n->SS w0 g n w D->bc D a m->bc D m b->
  ar 106 #[aF g n cap,af a,af m,af b,.func (.func 39) #[aw gp] #[]] w (aS w0 g n a b D):=by
 intro N
 induction N with
 | zero=>intro a m b D w h0 h1 h2;omega
 | succ N ih=>
   open zi8 in exact Zhc
def Dx (E:Nat->aR ds gp)(s n:Nat):Prop:=∀a,s ∣ a->bc E a (min (a+s) n)
variable{d:Nat}
theorem mF{x y:Nat}(h1:d ∣ x)(h2:d ∣ y)(h:x < y):x+d<=y:=by exact Zd8
def Low (E:Nat->aR ds gp)(s a:Nat):Prop:=∀x,s ∣ x->x+s<=a->bc E x (x+s)
def JE (E:Nat->aR ds gp)(s a n:Nat):Prop:=∀x,s ∣ x->a<=x->bc E x (min (x+s) n)
theorem Low.step{s:Nat}(h:Low E s a)(hd:s ∣ a)(hw:Sw a (a+s) E F)(ho:bc F a (a+s)):Low F s (a+s):=by exact Zen
theorem JE.step{s:Nat}(h:JE E s a n)(hab:a<=b)(hw:Sw a b E F):JE F s b n:=λ x hx hle=>(h x hx WC).congr λ i h2 h3=>hw.ae i (.inr WC)
theorem iF{s:Nat}(h:Low E s a)(hd:s ∣ a)(I7:a<=n)(hn:n < a+s)(hw:Sw a n E F)(ho:bc F a n):Dx F s n:=by exact Zc5
theorem zgy.Kbw(h:p:=by
 go_loopw [6] (λ sv wr=>∃(j:Nat) (E:Nat->aR ds gp),0 < j/\j<=2000/\sv=af j/\SS w0 g n wr E/\Sw 0 n D E/\Dx E j n) (λ sv _=>n - (intOf sv).toNat);case atStart=>exact⟨20,F,by omega,by omega,rfl,H2.ae,HW.ae,EN.ae⟩
 case round=>
  clear H2 HW EN;obtain⟨j,E,hj0,hj,rfl,hF,ih,q1⟩:=hrel;have HF:=aa hF;have IH:=aa ih;have Q1:=aa q1;clear hF ih q1;by_cases hlt:j < n
  ·go_wp2_with fail;go_loopw [7,8] (λ av bv wr2=>∃(a:Nat) (E:Nat->aR ds gp),2*j ∣ a/\a<=n/\av=af a/\bv=af (a+2*j:Nat)/\SS w0 g n wr2 E/\Sw 0 n D E/\Low E (2*j) a/\JE E j a n) (λ av _ _=>n - (intOf av).toNat);case atStart=>exact Zgk
   case round=>exact Zap
  ·have HE:=aa (show bc E 0 n from(Q1.ae 0 ⟨0,rfl⟩).mono (Nat.le_refl _) WC);go_wp2_with fail;exact bodyPost_ret (v:=.tuple #[]) Tbo rfl ⟨rfl,E,HF.ae,IH.ae,HE.ae⟩):p:=h
theorem vd (w0:World)(g n cap:Nat)(D:Nat->aR ds gp)(w:World)(h:SS w0 g n w D)(hn:n<=1000):
  ar 70 #[aF g n cap,af n,.func (.func 39) #[aw gp] #[]] w (aS w0 g n 0 n D):=by
 have HS:=aa h;clear h;go_enter Tryz.func70,Tryz.ntmps70;go_wp2_with fail;go_loopw [7,8] (λ av bv wr=>∃(a:Nat) (E:Nat->aR ds gp),20 ∣ a/\a<=n/\av=af a/\bv=af (a+20)/\SS w0 g n wr E/\Sw 0 n D E/\Low E 20 a) (λ av _ _=>n - (intOf av).toNat);case atStart=>exact Zht
 case round=>
  clear HS;obtain⟨a,E,q3,I7,rfl,rfl,hF,ih,q1⟩:=hrel;have HF:=aa hF;have IH:=aa ih;have Q1:=aa q1;have Q3:=aa q3;clear hF ih q1 q3;by_cases hlt:a+20<=n
  ·exact Zb4
  ·open zgy in exact Zd2
theorem mG (w0:World)(g n cap:Nat)(D:Nat->aR ds gp)(w:World)(h:SS w0 g n w D)(hn:n<=1000):
  ar 38 #[aF g n cap,.func (.func 39) #[aw gp] #[]] w (aS w0 g n 0 n D):=by have HC:=vd w0 g n cap D w h hn;clear h;go_enter Tryz.func38,Tryz.ntmps38;go_wp2_with fail;refine HC.mono ?_;rintro e w1 ⟨rfl,b1⟩;go_wp2_with fail;exact bodyPost_ret (v:=.tuple #[]) Tbq rfl ⟨rfl,b1⟩
def mH (w:World)(e:Ending)(w':World):Prop:=e=.returned (.tuple #[])/\w'=w
theorem mI (A:Option Addr)(cap:Nat)(w:World):
  ar 105 #[.slice A 0 cap,af 0,af 0,.func (.func 39) #[aw gp] #[]] w (mH w):=by
 go_enter Tryz.func105,Tryz.ntmps105;go_wp2_with fail;go_loopw [8] (λ iv wr=>iv=af 1/\wr=w) (λ _ _=>0);case atStart=>exact ZfI
 case round=>obtain⟨rfl,rfl⟩:=hrel;go_wp2_with fail;exact bodyPost_ret (v:=.tuple #[]) Tbj rfl ⟨rfl,rfl⟩
theorem su (A:Option Addr)(cap:Nat)(w:World):
  ar 70 #[.slice A 0 cap,af 0,.func (.func 39) #[aw gp] #[]] w (mH w):=by
 go_enter Tryz.func70,Tryz.ntmps70;go_wp2_with fail;go_loopw [7,8] (λ av bv wr=>av=af 0/\bv=af 20/\wr=w) (λ _ _ _=>0);case atStart=>exact Ziu
 case round=>
  obtain⟨rfl,rfl,rfl⟩:=hrel;go_wp2_with fail;refine(mI A cap _).mono ?_;rintro e_ w1 ⟨rfl,rfl⟩;go_wp2_with fail;go_loopw [6] (λ sv wr=>sv=af 20/\wr=w1) (λ _ _=>0);case atStart=>exact ZfI
  case round=>obtain⟨rfl,rfl⟩:=hrel;go_wp2_with fail;exact bodyPost_ret (v:=.tuple #[]) Tbo rfl ⟨rfl,rfl⟩
theorem kW (A:Option Addr)(cap:Nat)(w:World):
  ar 38 #[.slice A 0 cap,.func (.func 39) #[aw gp] #[]] w (mH w):=by go_enter Tryz.func38,Tryz.ntmps38;go_wp2_with fail;refine(su A cap w).mono ?_;rintro e_ w1 ⟨rfl,rfl⟩;go_wp2_with fail;exact bodyPost_ret (v:=.tuple #[]) Tbq rfl ⟨rfl,rfl⟩
end Go.Proofs.YtndgjggokjickaaGreatDoor.L
namespace Go.Proofs.YtndgjggokjickaaGreatDoor
variable{p:Prop}
set_option maxHeartbeats 90000000
set_option maxRecDepth 100000
open Go.ChangeShapes Go.WideShapes Go.ChangeAt Go.RowKit List
set_option linter.unusedVariables false
set_option linter.unusedSimpArgs false
noncomputable def ez:Code:=Tryz.f11.body.getD .skip
def Xk (f:Nat->Value):Array Value:= #[f 0,f 1,f 2,f 3,f 4,f 5,f 6,f 7,f 8,f 9,f 10,f 11,f 12,f 13,f 14,f 15,f 16,f 17,f 18,f 19,f 20,f 21,f 22,f 23,f 24,f 25,f 26,f 27,f 28,f 29,f 30,f 31,f 32,f 33,f 34,f 35,f 36,f 37,f 38,f 39,f 40,f 41,f 42,f 43,f 44,f 45,f 46,f 47,f 48,f 49,f 50,f 51,f 52,f 53,f 54,f 55,f 56,f 57,f 58,f 59,f 60,f 61,f 62,f 63,f 64,f 65,f 66,f 67,f 68,f 69,f 70,f 71,f 72,f 73,f 74,f 75,f 76,f 77,f 78,f 79,f 80,f 81,f 82,f 83,f 84,f 85,f 86,f 87,f 88,f 89,f 90,f 91,f 92,f 93,f 94,f 95,f 96,f 97,f 98,f 99,f 100,f 101,f 102,f 103,f 104,f 105,f 106,f 107,f 108,f 109,f 110,f 111,f 112,f 113,f 114,f 115,f 116,f 117,f 118,f 119,f 120,f 121,f 122,f 123,f 124,f 125,f 126,f 127,f 128,f 129,f 130,f 131,f 132,f 133,f 134,f 135,f 136,f 137,f 138,f 139,f 140,f 141,f 142,f 143,f 144,f 145,f 146,f 147,f 148,f 149,f 150,f 151,f 152,f 153,f 154,f 155,f 156,f 157,f 158,f 159,f 160,f 161,f 162,f 163,f 164,f 165,f 166,f 167,f 168,f 169,f 170,f 171,f 172,f 173,f 174,f 175,f 176,f 177,f 178,f 179,f 180,f 181,f 182]
theorem yN (T:Array Value)(h:T.size=183):∃f:Nat->Value,T=Xk f:=by
 refine⟨λ i=>T.getD i undef,?_⟩;apply Array.ext
 ·rw[h];rfl
 ·intro i h1 h2
  have e:∀(f:Nat->Value) (i:Nat) (hi:i <(Xk f).size),(Xk f)[i]=f i:=by
   intro f i hi;have h3:(Xk f).toList=(List.range 183).map f:=rfl;have h4:(Xk f)[i]=(Xk f).toList[i]' TaD:=by simp
   exact Zgz
  rw[e];simp[Array.getD,h1]
def ahB (w:World)(LA:Option Addr)(n:Nat)(D:Nat->aN×aN):Prop:=n=0\/∃g,LA=some ⟨g,0,none⟩/\g < w.heap.size/\∀i,i < n->w.cell? ⟨g,i*2,none⟩=some (.slice (D i).1.A (D i).1.l.length (D i).1.c)/\w.cell? ⟨g,i*2+1,none⟩=some (.slice (D i).2.A (D i).2.l.length (D i).2.c)
def rowsOf (D:Nat->aN×aN)(n:Nat):List aN:=(List.range n).map λ i=>(D i).1
theorem Ng (D:Nat->aN×aN)(n:Nat):rowsOf D (n+1)=rowsOf D n++ [(D n).1]:=by unfold rowsOf;rw[range_succ,map_append];rfl
theorem Dy (D:Nat->aN×aN)(n:Nat):(rowsOf D n).length=n:=by simp[rowsOf]
theorem zh6.Kb7(h:p:=by
 obtain⟨OA,oc,LG,_⟩:=HO.ae.reads;subst LG;have HOX:=HO;have aud:=HO.ae.other K62.ae Taa;clear HO;go_wp2_with fail;refine HH.ae _ _ (.slice OA (rowsOf D k).length oc) rfl rfl rfl (((K62.ae.aW 0 _).aW 1 _).aW 2 _) ?_ (aG (aG (aG (aT hb) _ _) _ _) _ _);refine HOX.ae.keep λ KK Lw=>?_
 have hn:KK≠g6:=λ e=>aud TaU
 rw[Below.heap_setCell _ ⟨g6,2,none⟩ _ KK hn,Below.heap_setCell _ ⟨g6,1,none⟩ _ KK hn,Below.heap_setCell _ ⟨g6,0,none⟩ _ KK hn]):p:=h
theorem abZ (gp g6 n lc:Nat)(LA:Option Addr)(D:Nat->aN×aN)(HA:Option Addr)(hn hc:Nat)(T:Array Value)(hT:T.size=183)(h6:T.getD 6 undef=aw g6)(h8:T.getD 8 undef=aw gp)(VJ:T.getD 13 undef=.slice LA n lc)(d:List Deferred)(w:World)(Q:Exit->Act->World->Prop)
  (uA:n<=1000000) (sQ:gp < w.heap.size) (hch:w.cell? ⟨gp,12,none⟩=some (.slice HA hn hc)) (rZ:aC w g6 33 #[az,az,af 0]) (hL:ahB w LA n D)
  (h:∀a W ov,a.defers=d->a.tmps.getD 6 undef=aw g6->a.tmps.getD 7 undef=af 0->aC W g6 33 #[.slice HA hn hc,ov,af n]->aI bX 38 1 W w.heap.size ov (rowsOf D n)->w.grownBy W (some g6)->Q .ret a W):
  (fA ez 14).wp Tryz.prog Q { tmps:=T,defers:=d } w:=by
 obtain⟨f,rfl⟩:=yN T hT;have h6:f 6=_:=h6;have h8:f 8=_:=h8;have VJ:f 13=_:=VJ;simp only[Xk,h6,h8,VJ];clear h6 h8 VJ;clear h6 h8 VJ hT;have HH:=aa h;have xp:=aa rZ;have HL:=aa hL;have b1:=ah w (.cells #[.slice HA hn hc,az,af n] 33);have cL:=aC.new w 33 #[.slice HA hn hc,az,af n];have eN:=aa b1;have HX:=aa cL;clear h rZ hL b1 cL;simp only[ez,fA,Tryz.f11,Option.getD_some];go_upto_region 33 with fail;clear hch sQ;obtain⟨g,hg⟩:∃g,g=w.heap.size:=⟨_,rfl⟩;rw[<- hg] at HX ⊢;have wI:=aa hg;clear hg;generalize w.alloc _=W1 at*;go_wp2_with fail;go_loopw [170] (λ i wr=>∃(k:Nat) (ov:Value),k<=n/\i=af k/\aC wr g 33 #[.slice HA hn hc,ov,af n]/\aI bX 38 1 wr w.heap.size ov (rowsOf D k)/\aj w wr) (λ i _=>n - (intOf i).toNat);case atStart=>exact⟨0,_,Nat.zero_le _,rfl,HX.ae,aI.nil,eN.ae⟩
 case round=>
  clear eN HX;obtain⟨k,ov,hk,rfl,hR,hO,hb⟩:=hrel;have K2:=aa hR;have HO:=aa hO;clear hR hO;by_cases hlt:k < n
  ·obtain⟨lb,hA,Eb,cg⟩:∃KK,LA=some ⟨KK,0,none⟩/\KK < w.heap.size/\∀i,i < n->w.cell? ⟨KK,i*2,none⟩=some (.slice (D i).1.A (D i).1.l.length (D i).1.c)/\w.cell? ⟨KK,i*2+1,none⟩=some (.slice (D i).2.A (D i).2.l.length (D i).2.c):=by
    rcases HL.ae with h | h
    ·omega
    ·exact h
   obtain⟨z0,z1⟩:=cg k hlt;have Kx:=(hb.cell (p:=⟨lb,k*2,none⟩) Eb).trans z0;have Ly:=(hb.cell (p:=⟨lb,k*2+1,none⟩) Eb).trans z1;subst hA;have HS:=aa (Ng D k);have AY:=aa (Dy D k);generalize (D k).1=r at*;generalize (D k).2=s at*;generalize rowsOf D k=rs at*;clear Eb cg z0 z1;go_upto_region 36 with fail;have b1:=ah wr (.cells #[.slice r.A r.l.length r.c,.slice s.A s.l.length s.c] 91);have cL:=aC.new wr 91 #[.slice r.A r.l.length r.c,.slice s.A s.l.length s.c];have cQ:=cL.cell 0;simp only[getElem?_toArray,getElem?_cons_zero] at cQ;have Vt:=aa (K2.ae.later b1);have yr:=aa (HO.ae.later b1);have hb1:=ai.then hb b1;have HK:=aa cL;clear b1 K2 HO hb cL Kx Ly;generalize Z1:wr.alloc (.cells #[.slice r.A r.l.length r.c,.slice s.A s.l.length s.c] 91)=W2 at*;generalize wr.heap.size=gl at*;clear Z1;have y1:=Vt.ae.cell 1;simp only[Uaa] at y1;have hB:=ah W2 (.cells #[.slice r.A r.l.length r.c] 38);have hG:=aC.new W2 38 #[.slice r.A r.l.length r.c];have WV:=aa (Vt.ae.later hB);have LV:=aa (yr.ae.later hB);have hb2:=ai.then hb1 hB
   have HG:=aa hG;have hbase:=hb2.size;have lX:=AY.ae;clear hB hG Vt yr;go_wp2_with (first
    |(at_builtin
      refine aV rfl (.tmp 175) (.tmp 178) 29 rfl _ 24 Tryz.underlying29 oB rfl WC r rfl Taw rfl LV.ae W2.heap.size rfl HG.ae WC WC hbase ?_
      intro v4 w4 o4 g4
      obtain⟨A4,c4,hv4,_⟩:=o4.reads
      rw[length_append,length_singleton,lX] at hv4
      subst hv4
      have G4:=aa (WV.ae.kr LV.ae Taa g4)
      have gc:=G4.ae.cell 1
      have gf:=G4.ae.frozen 1
      simp only[Uaa] at gc
      have B4:=aa (bw LV.ae g4 hbase)
      have O4:=aa o4
      clear o4 g4))
   go_roundw;case rel=>have hgn:=O4.ae.other G4.ae Taa;refine⟨k+1,_,hlt,by go_num,G4.ae.aW 1 _,?_,(hb2.trans B4.ae).setCell TaR _⟩;rw[HS.ae];exact O4.ae.keep λ KK Lw=>Below.heap_setCell _ ⟨g,1,none⟩ _ KK (λ e=>hgn TaU)
   case measure=>exact Za6
  ·have fL:k=n:=by omega
   subst fL;have y0:=K2.ae.cell 0;have y1:=K2.ae.cell 1;have y2:=K2.ae.cell 2;simp only[Uaa] at y0 y1 y2;have K62:=aa (show aC wr g6 33 #[az,az,af 0] from(hb.block g6 xp.ae.lt).trans xp.ae);open zh6 in exact Zfk
def eP (x:aN×aN):List Value:=[.slice x.1.A x.1.l.length x.1.c,.slice x.2.A x.2.l.length x.2.c]
def Nh (x:aN×aN):eI:=⟨x.1.l,x.2.l⟩
theorem Tf:(Tryz.prog.info? 91).map (λ i=>(i.zero,i.size,i.bytes))=some (some (.agg #[az,az]),2,48):=by exact ZhU
variable{ds:List Bool}{gp:Nat}
def toD(x:aN×aN):L.aR ds gp:=⟨x.1,x.2⟩
variable{w w':World}{A:Option Addr}{l:List Val}
theorem bP.later(h:bP w A l)(hb:aj w w'):bP w' A l:=h.keep hb.size λ b cur hc=>hb.block b hc.lt
variable{α:Type}{f:α->List Value}{e:TypeId}{size base:Nat}{k:List Val}
theorem bP.own{v:Value} {l:List α}   (h:bP w A k)(ho:aI f e size w base v l)(he:44≠e)(hg:w.grownBy w' v.ownBlock):bP w' A k:=
 h.keep hg.size λ b cur hc=>hg.block b hc.lt λ e2=>ho.other hc he e2.symm
def I8 (ord:List (Tr×Bool))(LA:Option Addr)(dL:List (aN×aN))(lv:Value)(w:World)(e:Ending)(w':World):Prop:=
 e=.returned (.tuple #[])/\∃E:Nat->aN×aN,ahB w' LA dL.length E/\((List.range dL.length).map λ i=>Nh (E i)).map eI.row=(mh (ord.map λ o=>o.2) (dL.map Nh)).map eI.row/\(∀i,i < dL.length->E i∈dL)/\w.grownBy w' lv.ownBlock
theorem Tg:∀(l:List (aN×aN)) (i:Nat) x,l[i]?=some x->(l.flatMap eP)[i*2]?=some (.slice x.1.A x.1.l.length x.1.c)/\(l.flatMap eP)[i*2+1]?=some (.slice x.2.A x.2.l.length x.2.c)
 | [],i,x,h=>by simp at h
 | y::l,0,x,h=>by simp at h;subst h;exact⟨rfl,rfl⟩
 | y::l,i+1,x,h=>by
   have:=Tg l i x Tal;rw[flatMap_cons];rw[getElem?_append_right (by simp[eP];omega),getElem?_append_right (by simp[eP];omega)];have e1:(i+1)*2 - (eP y).length=i*2:=by simp[eP];omega
   have e2:(i+1)*2+1 - (eP y).length=i*2+1:=by simp[eP];omega
   rw[e1,e2];exact this
theorem QR (gp:Nat)(ord:List (Tr×Bool))(oA:Option Addr)(on oc:Nat)(dL:List (aN×aN))(base:Nat)(LA:Option Addr)(lc:Nat)(w:World)(uA:dL.length<=1000)(T7:ord.length<=1599289640356)(sQ:gp < w.heap.size)(Cn:w.cell? ⟨gp,6,none⟩=some (.slice oA on oc))(hgt:∃cs,aC w gp 81 cs)(hO:eQ w (ord.map λ x=>(x.1,Value.bool x.2)) oA on)
  (hOt:∀b,base<=b->∀w',w.grownBy w' (some b)->eQ w' (ord.map λ x=>(x.1,Value.bool x.2)) oA on)
  (Xe:aI eP 91 2 w base (.slice LA dL.length lc) dL) (sw:∀x∈dL,bP w x.1.A x.1.l/\bP w x.2.A x.2.l/\x.1.l.length<=1000/\x.2.l.length=ord.length):
  ar 38 #[.slice LA dL.length lc,.func (.func 39) #[aw gp] #[]] w (I8 ord LA dL (.slice LA dL.length lc) w):=by
 by_cases h0:dL=[]
 ·subst h0;refine(L.kW LA lc w).mono ?_;rintro e w' ⟨rfl,rfl⟩;exact⟨rfl,λ _=>(⟨none,[],0⟩,⟨none,[],0⟩),.inl rfl,rfl,λ i hi=>by simp at hi,⟨rfl,rfl,rfl,Nat.le_refl _,λ _ _ _=>rfl⟩⟩
 ·have hlen:0 < dL.length:=List.length_pos_iff.2 h0;obtain⟨Hv,h1 |⟨g,cap,cur,hv,hbg,hg,hlc,hm,hsz,lS⟩⟩:=Xe
  ·omega
  ·injection hv with e1 _ e2;subst e1 e2;have hD0:∀i,i < dL.length->∃x,dL[i]?=some x:=λ i hi=>⟨_,getElem?_eq_getElem hi⟩
   let d0:aN×aN:=(⟨none,[],0⟩,⟨none,[],0⟩);let D:Nat->L.aR (ord.map λ o=>o.2) gp:=λ i=>toD (dL.getD i d0)
   have Bc:∀i (hi:i < dL.length),dL.getD i d0=dL[i]:=λ i hi=>by rw[getD_eq_getElem?_getD,getElem?_eq_getElem hi];rfl
   have uk:∀(j:Nat) v,(dL.flatMap eP)[j]?=some v->cur[j]?=some v:=λ j v hj=>by
    rw[<- Array.getElem?_toList];have:(cur.toList.take (dL.length*2))[j]?=some v:=by rw[lS];exact hj
    rw[getElem?_take] at this;split at this
    ·exact this
    ·cases this
   have hAt:L.At w g dL.length D:=by
    refine⟨cur,hg,?_,λ i hi=>?_⟩
    ·rw[hsz];exact Nat.mul_le_mul_right 2 hlc
    ·obtain⟨f1,f2⟩:=Tg dL i dL[i] (getElem?_eq_getElem hi);refine⟨(uk _ _ f1).trans ?_,(uk _ _ f2).trans ?_⟩
     ·show _=some (Value.slice (dL.getD i d0).1.A (dL.getD i d0).1.l.length (dL.getD i d0).1.c);rw[Bc i hi]
     ·show _=some (Value.slice (dL.getD i d0).2.A (dL.getD i d0).2.l.length (dL.getD i d0).2.c);rw[Bc i hi]
   have hRN:∀r:aN,bP w r.A r.l->L.RN w g r:=λ r hr=>by
    rcases hr.rv with h |⟨b,off,e1,e2,e3⟩
    ·exact .inl h
    ·obtain⟨cs,hcs⟩:=hr.ty _ e1;exact .inr ⟨b,off,e1,e2,λ e=>by have:=kO hcs hg Taa;exact this e,e3⟩
   have ahC:∀k,k < dL.length->L.RN w g (D k).row/\L.RN w g (D k).keys/\(D k).row.l.length<=1000/\(D k).keys.l.length=(ord.map λ o=>o.2).length:=λ k hk=>by
    have hx:=sw dL[k] (getElem_mem hk);have e:D k=toD dL[k]:=by show toD (dL.getD k d0)=_;rw[Bc k hk]
    rw[e];exact⟨hRN _ hx.1,hRN _ hx.2.1,hx.2.2.1,by rw[length_map];exact hx.2.2.2⟩
   have ee:gp≠g:=by obtain⟨cs,hcs⟩:=hgt;exact kO hcs hg Taa
   have aue:L.aeA (ord.map λ o=>o.2) gp w g:=λ x y W hW r1 r2 r3 r4 l1 l2 l3 l4=>by rw[length_map] at l3 l4;have hc:=Nc gp ord oA on oc ⟨x.row,x.keys⟩ ⟨y.row,y.keys⟩ W T7 (Nat.lt_of_lt_of_le sQ hW.size) ((bJ (hW.block gp sQ (λ e=>ee Tbh)) 6).trans Cn) (hOt g hbg W hW) ⟨r1.rv hW,r2.rv hW,l3,l1⟩ ⟨r3.rv hW,r4.rv hW,l4,l2⟩;exact hc
   refine(L.mG w g dL.length lc D w ⟨hAt,World.grownBy.refl w _,ahC,aue⟩ uA).mono ?_;rintro e w' ⟨rfl,E,hS,hSw,hSr⟩;refine⟨rfl,λ i=>((E i).row,(E i).keys),.inr ⟨g,rfl,Nat.lt_of_lt_of_le (show aC w g 91 cur from hg).lt hS.grown.size,λ i hi=>⟨hS.at_.cell i hi,hS.at_.dH i hi⟩⟩,?_,λ i hi=>?_,hS.grown⟩
   ·have hD:((List.range dL.length).map D).map (λ x:L.aR (ord.map λ o=>o.2) gp=>x.s)=dL.map Nh:=by
     rw[map_map];apply ext_getElem
     ·simp
     ·intro i i1 i2;have hi:i < dL.length:=by simpa using i2
      simp only[getElem_map,getElem_range];show(toD (ds:=ord.map λ o=>o.2) (gp:=gp) (dL.getD i d0)).s=Nh dL[i];rw[Bc i hi];rfl
    have hE:((List.range dL.length).map λ i=>Nh ((E i).row,(E i).keys))=((List.range dL.length).map E).map (λ x:L.aR (ord.map λ o=>o.2) gp=>x.s):=by rw[map_map];rfl
    rw[hE];have hp:(((List.range dL.length).map E).map (λ x:L.aR (ord.map λ o=>o.2) gp=>x.s)).Perm (dL.map Nh):=by rw[<- hD];exact(hSw.perm (Nat.le_refl _)).map _
    unfold mh;refine uy (pP _) eI.row (λ x y h=>Qa h) _ _ (hp.trans (fX _ _).symm) ?_ (iU (pP _) _);rw[pairwise_map,pairwise_iff_getElem];intro i j hi hj kY;simp at hi hj;simp only[getElem_map,getElem_range];exact hSr i j WC kY hj
   ·obtain⟨k',_,Ru,he⟩:=hSw.mem i (Nat.zero_le _) hi;show((E i).row,(E i).keys)∈dL;rw[he];show((toD (ds:=ord.map λ o=>o.2) (gp:=gp) (dL.getD k' d0)).row,(toD (ds:=ord.map λ o=>o.2) (gp:=gp) (dL.getD k' d0)).keys)∈dL;rw[Bc k' Ru];exact getElem_mem Ru
theorem VK (u:World):(sizeOf (Tryz.prog.elem 85)).run Tryz.prog u=.ok 2 u:=by exact ZhU
theorem VL (A1:Option Addr)(n c1 k:Nat)(hk:k<=c1)(u:World):(Instr.slice 85 (.slice A1 n c1) none (some (af k)) none).run Tryz.prog u=.ok (.slice A1 k c1) u:=by rw[run_slice_h u 85 A1 n c1 Tryz.underlying85 .i64 k WC WC,VK];exact Zh8
theorem zdK.KaH(h:p:=by
 clear Qw h hF ih q1 q2 q3 q4 q5 AP Aj fq hz Ny Cn Ly hOt;have hh:=λ(n:Nat) (vn:n<=1000) D T hT h6 h8 VJ d w1 Q=>abZ gp g6 n lc LA D HA hn hc T hT h6 h8 VJ d w1 Q WC
 simp only[ez,fA,Tryz.f11,Option.getD_some] at hh;have HO:=aa hh;clear hh;simp only[ez,fA,Tryz.f11,Option.getD_some];refine wp_seq_k λ K hK=>?_
 have DY:=aa hK;clear hK;go_wp2_with fail;refine HSO.ae.mono ?_;rintro e w1 ⟨rfl,E,hE,hs,hm,hg⟩;have HE:=aa hE;have LE:=aa hs;have HM:=aa hm;have HG:=aa hg;clear hE hs hm hg HSO;go_wp2_with fail;refine DY.ae _ _ ?_;clear DY;have ahG:w1.cell? ⟨gp,12,none⟩=some (.slice HA hn hc):=by obtain⟨cs,hcs⟩:=Q1.ae;exact(bJ (HG.ae.block gp HH.ae λ e=>HF.ae.other hcs Taa e.symm) 12).trans Q3.ae
 have hk7:w1.cell? ⟨g3,7,none⟩=some (.slice lA lim.length lc2):=by obtain⟨cs,hcs⟩:=Q5.ae;exact(bJ (HG.ae.block g3 hcs.lt λ e=>HF.ae.other hcs Taa e.symm) 7).trans Q4.ae
 have hb1:Below base w w1:=bw HF.ae HG.ae jH.ae;have QS:=aa (show aC w1 g6 33 #[az,az,af 0] from IH.ae.kr HF.ae Taa HG.ae);have Im:gp < w1.heap.size:=Nat.lt_of_lt_of_le HH.ae HG.ae.size
 have hO:∀(n:Nat) (WI:n<=dL.length) (aeC:((List.range n).map λ i=>Nh (E i)).map eI.row=((match lim with | []=>mh (ord.map λ o:Tr×Bool=>o.2) (dL.map Nh)| n::_=>(mh (ord.map λ o:Tr×Bool=>o.2) (dL.map Nh)).take n.toNat).map eI.row)) (a:Act) W ov,a.defers=d->a.tmps.getD 6 undef=aw g6->a.tmps.getD 7 undef=af 0->aC W g6 33 #[.slice HA hn hc,ov,af n]->aI bX 38 1 W w1.heap.size ov (rowsOf E n)->w1.grownBy W (some g6)->Q .ret a W:=by
  intro n WI aeC a W ov e1 e2 e3 k6 oW gW;refine HS.ae a W ov (rowsOf E n) e1 e2 e3 (by rw[Dy];exact k6) (oW.down (Nat.le_trans jH.ae HG.ae.size)) (λ r hr=>?_) ?_ ?_
  ·unfold rowsOf at hr;obtain⟨i,hi,rfl⟩:=List.mem_map.1 hr;have hi:i < n:=List.mem_range.1 hi;have hx:=B9.ae _ (HM.ae i WC);exact(hx.1.own HF.ae Taa HG.ae).keep gW.size λ b cur yz=>gW.block b yz.lt λ e=>by injection e with e;subst e;exact kO yz QS.ae Taa rfl
  ·rw[<- aeC];unfold rowsOf;rw[map_map,map_map];rfl
  ·exact⟨w1,HG.ae,gW⟩
 have HBE:=aa hO;clear hO;refine wp_seq_k λ K hK=>?_
 have DY:=aa hK;clear hK;rcases lim with _ |⟨n,_ |⟨n2,lim⟩⟩
 ·have mn:=HBE.ae dL.length (Nat.le_refl _) LE.ae;clear HBE;have Lw:=aa mn;clear mn;go_wp2_with fail;exact DY.ae _ _ (HO.ae dL.length uA E _ rfl rfl rfl rfl d w1 Q Im ahG QS.ae HE.ae λ a W ov e1 e2 e3 k6 oW gW=>Lw.ae a W ov e1 e2 e3 k6 oW gW)
 ·obtain⟨n0,n1⟩:=ZV.ae n Tac;obtain hl2 |⟨lb,lo,hA,Eb,cg⟩:=oQ.ae
  ·cases hl2
  ·have hl0:=cg 0 n rfl;have fq:w1.cell? ⟨lb,lo,none⟩=some (af n):=by rw[Nat.add_zero] at hl0;refine(bJ (HG.ae.block lb (Nat.lt_of_lt_of_le Eb jH.ae) λ e=>?_) lo).trans hl0;have:=(HF.ae.lt e.symm).2.1;omega
   subst hA;obtain⟨k,hk⟩:∃k:Nat,n=k:=⟨n.toNat,by omega⟩;subst hk;have hs2:=VL LA dL.length lc (min dL.length k) WC w1;have mn:=HBE.ae (min dL.length k) (Nat.min_le_left _ _) (by
    have h1:=congrArg (List.take k) LE.ae
    rw[<- map_take,<- map_take,<- map_take,take_range] at h1
    rw[Nat.min_comm]
    exact h1)
   have mS:ahB w1 LA (min dL.length k) E:=by
    rcases HE.ae with h |⟨g,Kx,KK,LT⟩
    ·exact .inl WC
    ·exact .inr ⟨g,Kx,KK,λ i hi=>LT i WC⟩
   have Lw:=aa mn;have xu:=aa mS;clear mn mS HBE hl0 Eb cg oQ;by_cases hlt:k < dL.length
   ·have Be:min dL.length k=k:=by omega
    rw[Be] at hs2 Lw xu;have qA:((k:Int)<(dL.length:Int)):=by omega
    go_wp2_with fail;have hmt:(min (dL.length:Int) (k:Int)).toNat=k:=by omega
    simp only[hmt];exact DY.ae _ _ (HO.ae k WC E _ rfl rfl rfl rfl d w1 Q Im ahG QS.ae xu.ae λ a W ov e1 e2 e3 k6 oW gW=>Lw.ae a W ov e1 e2 e3 k6 oW gW)
   ·have Be:min dL.length k=dL.length:=by omega
    rw[Be] at hs2 Lw xu;have qA:¬((k:Int)<(dL.length:Int)):=by omega
    go_wp2_with fail;have hmt:(min (dL.length:Int) (k:Int)).toNat=dL.length:=by omega
    simp only[hmt];exact DY.ae _ _ (HO.ae dL.length WC E _ rfl rfl rfl rfl d w1 Q Im ahG QS.ae xu.ae λ a W ov e1 e2 e3 k6 oW gW=>Lw.ae a W ov e1 e2 e3 k6 oW gW)
 ·have:=Ay.ae;simp at this):p:=h
theorem I9 (gp g3 g6:Nat)(ord:List (Tr×Bool))(oA:Option Addr)(on oc:Nat)(lim:List Int)(lA:Option Addr)(lc2:Nat)(dL:List (aN×aN))(base:Nat)(LA:Option Addr)(lc:Nat)(HA:Option Addr)(hn hc:Nat)(T:Array Value)(hT:T.size=183)(h3:T.getD 3 undef=aw g3)(h6:T.getD 6 undef=aw g6)(h8:T.getD 8 undef=aw gp)(VJ:T.getD 13 undef=.slice LA dL.length lc)(d:List Deferred)(w:World)(Q:Exit->Act->World->Prop)
  (uA:dL.length<=1000) (T7:ord.length<=1599289640356) (q2:gp < w.heap.size) (q3:w.cell? ⟨gp,12,none⟩=some (.slice HA hn hc)) (Cn:w.cell? ⟨gp,6,none⟩=some (.slice oA on oc)) (q1:∃cs,aC w gp 81 cs) (Ly:eQ w (ord.map λ x=>(x.1,Value.bool x.2)) oA on)
  (hOt:∀b,base<=b->∀w',w.grownBy w' (some b)->eQ w' (ord.map λ x=>(x.1,Value.bool x.2)) oA on)
  (q4:w.cell? ⟨g3,7,none⟩=some (.slice lA lim.length lc2)) (q5:∃cs,aC w g3 27 cs) (AP:lim=[]\/∃b off,lA=some ⟨b,off,none⟩/\b < base/\∀i x,lim[i]?=some x->w.cell? ⟨b,off+i,none⟩=some (af x)) (Aj:∀n∈lim,0<=n/\n<=9223372036854775807) (fq:lim.length<=1)
  (ih:aC w g6 33 #[az,az,af 0]) (hz:base<=w.heap.size)
  (hF:aI eP 91 2 w base (.slice LA dL.length lc) dL) (Ny:∀x∈dL,bP w x.1.A x.1.l/\bP w x.2.A x.2.l/\x.1.l.length<=1000/\x.2.l.length=ord.length)
  (h:∀a W ov (out:List aN),a.defers=d->a.tmps.getD 6 undef=aw g6->a.tmps.getD 7 undef=af 0->aC W g6 33 #[.slice HA hn hc,ov,af out.length]->aI bX 38 1 W base ov out->(∀r∈out,bP W r.A r.l)->out.map (·.l)=((match lim with | []=>mh (ord.map λ o:Tr×Bool=>o.2) (dL.map Nh)| n::_=>(mh (ord.map λ o:Tr×Bool=>o.2) (dL.map Nh)).take n.toNat).map eI.row)->(∃wm,w.grownBy wm (Value.slice LA dL.length lc).ownBlock/\wm.grownBy W (some g6))->Q .ret a W):
  (fA ez 12).wp Tryz.prog Q { tmps:=T,defers:=d } w:=by
 obtain⟨f,rfl⟩:=yN T hT;have h3:f 3=_:=h3;have h6:f 6=_:=h6;have h8:f 8=_:=h8;have VJ:f 13=_:=VJ;simp only[Xk,h3,h6,h8,VJ];clear h3 h6 h8 VJ;clear h3 h6 h8 VJ hT;have Qw:=QR gp ord oA on oc dL base LA lc w uA T7 q2 Cn q1 Ly hOt hF Ny;have hle:dL.length<=lc:=by obtain⟨_,_,e,_,hl,_⟩:=hF.reads;injection e with _ _ e;rw[e];exact hl
 have HSO:=aa Qw;have HS:=aa h;open zdK in exact Zbm
end Go.Proofs.YtndgjggokjickaaGreatDoor
