/- Parts of the proof. -/
import Derived.Lay
import Derived.LaidMore
import Derived.Stop.LaidErr
import Derived.HandedShaped
import Derived.Deep.DeepHandedRow
import Derived.Test.YtndgjggokjickaaGreatDoorXP6
namespace Go.Proofs.YtndgjggokjickaaGreatDoor
open _root_.Go.Proofs.Tryz
variable{p:Sort _}
set_option maxHeartbeats 90000000
set_option maxRecDepth 100000
open Go.ChangeShapes Go.WideShapes Go.ChangeAt Go.RowKit List
set_option linter.unusedVariables false
set_option linter.unusedSimpArgs false
theorem EG(D:Nat->aK)(n i j:Nat)(hi:i<n)(hj:j<n):((List.range n).map (swp D i j)).Perm ((List.range n).map D):=by exact Zbx
variable{n:Nat}{D E:Nat->aK}
theorem Sw.perm{a b:Nat}(h:Sw a b D E)(hb:b<=n):((List.range n).map E).Perm ((List.range n).map D):=by exact Zgd
variable{w:t_}{base:Nat}{v:Value}{l:w_}
theorem alc(h:aH aX 44 3 w base v l):∃A c,v=.slice A l.length c/\RV w w.heap.size A l/\l.length<=c:=by
 obtain⟨A,c,rfl,hr,hc,_⟩:=h.reads;refine⟨A,c,rfl,?_,hc⟩;rcases Nat.eq_zero_or_pos l.length with h0|h0;exact .inl (eq_nil_of_length_eq_zero h0);obtain⟨ad,rfl,hb,hcell⟩:=hr.2 h0;rcases h.2 with⟨h,_⟩|⟨g,cap,cur,h,_⟩
 cases h;injection h with h;injection h with h;subst h;refine .inr ⟨g,0,rfl,hb,λ i x hx=>?_⟩;have k:∀r,r<3->∀u,(aX x)[r]?=some u->w.cell? ⟨g,0+i*3+r,none⟩=some u:=λ r hr u hu=>by have:=hcell (i*3+r) u ((Ji (size:=3) (λ _=>rfl) l i r x hx hr).trans hu);rwa [dX,<-Nat.add_assoc]at this
 exact⟨k 0 WC _ rfl,k 1 WC _ rfl,k 2 WC _ rfl⟩
theorem Pf(l:List aK):l.flatMap bh=l.map aK.v:=by
 induction l with
 |nil=>rfl
 |cons x l ih=>simp only[flatMap_cons,map_cons,ih];rfl
variable{ov:Value}{cl:List aK}
theorem aba(h:aH bh 38 1 w base ov cl)(hm:Mine w base cl)(hne:cl≠[])(hl:∀r∈cl,r.l.length<=1000):
  ∃g cap,ov=aL g cl.length cap/\base<=g/\SS w g cl.length w (λ i=>cl.getD i ⟨none,[],0⟩):=by
 rcases h.2 with⟨rfl,h0⟩|⟨g,cap,cur,rfl,hb,e1,hn,hm2,hs,ht⟩
 exact absurd (eq_nil_of_length_eq_zero h0) hne;have hsz:cl.length<=cur.size:=by rw[hs];omega
 have Ci:∀i,(hi:i<cl.length)->cl.getD i ⟨none,[],0⟩=cl[i]:=λ i hi=>by simp[hi]
 refine⟨g,cap,rfl,hb,⟨⟨cur,e1,hsz,λ i hi=>?_⟩,⟨rfl,rfl,rfl,aE,λ _ _ _=>rfl⟩,λ k hk=>?_⟩⟩;have e:=congrArg (λ l=>l[i]?) ht;rw[Pf]at e;simp only[getElem?_take,getElem?_map]at e;rw[if_pos WC,getElem?_eq_getElem hi]at e;show cur[i]?=some (cl.getD i ⟨none,[],0⟩).v;rw[Ci i hi];simpa using e;show RN w g (cl.getD k ⟨none,[],0⟩)/\(cl.getD k ⟨none,[],0⟩).l.length<=1000;rw[Ci k hk];have hr:=getElem_mem hk;refine⟨?_,hl _ hr⟩;obtain⟨A,c,KK,Kx,_⟩:=alc (hm _ hr);have hA:cl[k].A=A:=by unfold aK.v at KK;injection KK
 subst hA;rcases Kx with Kx|⟨b,off,h1,h2,h3⟩;exact .inl Kx;refine .inr ⟨b,off,h1,h2,λ e=>?_,h3⟩;subst e;have hq:(cl[k].v).ownBlock=some b:=by
  rcases(hm _ hr).2 with⟨h4,_⟩|⟨g',cap',cur',h4,_⟩
  unfold aK.v at h4;injection h4 with h4;rw[h1]at h4;cases h4;rw[h4];unfold aK.v at h4;injection h4 with h4;rw[h1]at h4;injection h4 with h4;injection h4 with h4;rw[<-h4];rfl
 obtain⟨_,_,cur',e2⟩:=(hm _ hr).lt hq;rw[e1]at e2;injection e2 with e2;injection e2 with _ e2 _;exact absurd e2 Tab
def ayb(w:t_)(A:xP)(out:List aK):Prop:=out=[]\/∃g cs,A=some ⟨g,0,none⟩/\aB w g 38 cs
def Fi(rs:List aK)(w:t_)(e:Ending)(w':t_):Prop:=
 ∃(A':xP) (c':Nat) (out:List aK),e=.returned (.slice A' out.length c')/\(out.map (·.l)).Perm (rs.map (·.l))/\out.Pairwise le/\RR w' w'.heap.size A' out/\(Mine w' w.heap.size out/\ayb w' A' out)/\ai w w'
theorem YF(cl:List aK)(d:aK):(List.range cl.length).map (λ i=>cl.getD i d)=cl:=by apply ext_getElem;simp;intro i h1 h2;simp at h1;simp[h1]
theorem Lv(h:cT E 0 n):((List.range n).map E).Pairwise le:=by rw[pairwise_iff_getElem];intro i j hi hj kE;simp at hi hj;simp only[getElem_map,getElem_range];exact h i j WC kE hj
def zf7.Kbx(h:p:=by
 have HV:=aa uw;clear uw;generalize aG[i]=r at*;obtain⟨rA,l,rc⟩:=r;dsimp only at*;go_wp2_with fail;refine(vD rA rc l _ ((HV.ae.more hB.size)) lQ).mono ?_;rintro e_ w1 ⟨v,rfl,hO1,b1⟩;obtain⟨A1,c1,rfl,_⟩:=hO1.reads;have hM1:Mine w1 w.heap.size (cl++[⟨A1,l,c1⟩]):=by intro r hr;rcases List.mem_append.1 hr with hr|hr;exact(HE.ae r hr).later b1;simp at hr;subst hr;exact hO1.down hB.size
 have b2:=ah w1 (.cells #[.slice A1 l.length c1] 38);have HG:=aa (aB.new w1 38 #[.slice A1 l.length c1]);replace HE:=aa (hM1.later b2);replace HM:=aa ((HM.ae.later b1).later b2);have ez:=aj.then (aj.then hB b1) b2;have cj:cl.length=i:=by have:=congrArg List.length HC.ae;simp at this;omega
 clear hO1 b1 b2 hM1 hcell HV hB;go_wp2_with (first
  |(at_builtin
    refine aV (f:=bh) rfl (.tmp 12) (.tmp 15) 29 rfl _ 24 underlying29 iG rfl WC (⟨A1,l,c1⟩:aK) rfl Tar rfl HM.ae w1.heap.size rfl HG.ae WC WC ez.size ?_;intro v2 w2 o2 g2;have b3:=bj HM.ae g2 ez.size;have HM2:=aa (HE.ae.grown HM.ae g2);have O2:=aa o2;clear o2 g2))
 clear HM HG HE;go_wp2_with fail;go_roundw;case rel=>refine⟨i+1,_,hlt,by go_num,?_,O2.ae,HM2.ae,ez.trans b3⟩;rw[HT.ae,<-HC.ae,map_append];rfl
 case measure=>exact Za2):=h
theorem abb(A:xP)(c:Nat)(aG:List aK)(w:t_)(h:RR w w.heap.size A aG)(hm:aG.length<=1000)(hl:∀r∈aG,r.l.length<=1000):
  ar 19 #[.slice A aG.length c] w (Fi aG w):=by
 have HR:=aa h;have Bh:=aa hl;clear h hl;go_enter func19,ntmps19;go_wp2_with fail;go_loopw [3,8] (λ ov iv wr=>∃(i:Nat) (cl:List aK),i<=aG.length/\iv=af i/\cl.map (·.l)=(aG.take i).map (·.l)/\aH bh 38 1 wr w.heap.size ov cl/\Mine wr w.heap.size cl/\ai w wr) (λ _ iv _=>aG.length-(intOf iv).toNat);case atStart=>exact⟨0,[],gE,rfl,rfl,aH.nil,λ r hr=>by simp at hr,cX⟩
 case round=>
  obtain⟨i,cl,hk,rfl,cj,hO,hM,hB⟩:=hrel;have HC:=aa cj;have HM:=aa hO;have HE:=aa hM;clear cj hO hM;by_cases hlt:i<aG.length
  ·open zf7 in exact Zes
  have fX:i=aG.length:=by omega
  subst fX;rw[take_length]at HC;have FB:∀r∈cl,r.l.length<=1000:=by intro r hr;have h1:r.l∈cl.map (·.l):=List.mem_map.2 ⟨r,hr,rfl⟩;rw[HC.ae]at h1;obtain⟨r',h2,h3⟩:=List.mem_map.1 h1;rw[<-h3];exact Bh.ae r' h2
  have cj:cl.length=aG.length:=by have:=congrArg List.length HC.ae;simpa using this
  have uo:cl.length<=1000:=WC;clear cj;by_cases h0:cl=[]
  ·subst h0;obtain⟨A1,c1,rfl,_⟩:=HM.ae.reads;go_wp2_with fail;refine(lN A1 c1 _).mono ?_;rintro e_ w1 ⟨rfl,rfl⟩;go_wp2_with fail;go_ret;exact⟨A1,c1,[],rfl,by rw[<-HC.ae],.nil,.inl rfl,⟨λ r hr=>by simp at hr,.inl rfl⟩,hB⟩
  obtain⟨g,cap,rfl,hbg,hSS⟩:=aba HM.ae HE.ae h0 FB;have HSS:=aa hSS;clear hSS;go_wp2_with fail;refine(nd _ g cl.length cap _ _ HSS.ae WC).mono ?_;rintro e_ w1 ⟨rfl,E,hs,hw,ho⟩;have hp:=hw.perm (Nat.le_refl cl.length);rw[YF]at hp;have hlen:((List.range cl.length).map E).length=cl.length:=by simp
  have hP:=aa (show Fi aG w (.returned (aL g cl.length cap)) w1 from by
   refine⟨some ⟨g,0,none⟩,cap,(List.range cl.length).map E,by rw[hlen],?_,Lv ho,?_,?_,dz hB hs.grown hbg⟩
   ·rw[<-HC.ae]
    exact hp.map _
   ·obtain⟨cs,hblk,_⟩:=hs.at_
    refine .inr ⟨g,0,rfl,hblk.lt,λ Kx r hr=>?_⟩;rw[getElem?_map]at hr;cases hi:(List.range cl.length)[Kx]? with
    |none=>rw[hi]at hr;cases hr
    |some j=>
      have hj:=List.getElem?_eq_some_iff.1 hi;obtain⟨h1,h2⟩:=hj;simp at h1 h2;subst h2;rw[hi]at hr;simp only[Option.map_some,Option.some.injEq]at hr;subst hr;rw[Nat.zero_add];exact⟨hs.at_.cell Kx h1,hs.rv Kx h1⟩
   have aso:=HE.ae.grown HM.ae (show World.grownBy _ w1 _ from hs.grown);obtain⟨cs,hblk,_⟩:=hs.at_;exact⟨λ r hr=>aso r (hp.mem_iff.1 hr),.inr ⟨g,cs,rfl,hblk⟩⟩)
  clear hp hlen hs hw ho;go_wp2_with fail;go_ret;exact hP.ae
variable{q:Qy}{cols:List aZ}{rows:List aK}
theorem Ts(g:GOK q cols rows):∀hd la,iZ q cols (rows.map (·.l))=.ok (hd,la)->hd.length<=1000/\la.length<=1000/\∀r∈la,r.length<=1000:=λ hd la hr=>by
 obtain⟨h1,h2,h3⟩:=aaZ hr (by have:=g.i;omega) (by have:=g.cl;omega) (λ r hr=>by obtain⟨x,hx,rfl⟩:=List.mem_map.1 hr;have:=g.each x hx;omega)
 rw[length_map]at h2;have:=g.rn;exact⟨by omega,by omega,λ r hr=>by have:=h3 r hr;omega⟩
variable{α:Type}{f:α->xr}{e:TypeId}{size:Nat}{w2:t_}{u u2:Value}{k:List α}
theorem Fj{l:List α}(hu:aH f e size w base u l)(hv:aH f e size w base v k)(hd:∀q,u.ownBlock=some q->v.ownBlock≠some q)(g:w.grownBy w2 u.ownBlock)(m:Mv w u u2):aH f e size w2 base v k/\(∀q,u2.ownBlock=some q->v.ownBlock≠some q):=by refine⟨hv.keep λ q hq=>g.block q (hv.lt hq).1 λ e=>hd q e.symm hq,λ q hq lx=>?_⟩;rcases m with m|m;exact hd q (m▸hq) lx;have:=m q hq;have:=(hv.lt lx).1;omega
variable{B:Nat}{A:xP}{rs:List aK}
theorem abc(h:RR w B A rs):Reads w B 1 A rs.length (rs.flatMap bh):=by
 rw[Pf];refine⟨by simp,λ hn=>?_⟩;rcases h with h|⟨b,off,hA,hb,hc⟩;subst h;simp at hn;refine⟨⟨b,off,none⟩,hA,hb,λ j u hu=>?_⟩;rw[getElem?_map]at hu;cases hr:rs[j]? with
 |none=>rw[hr]at hu;cases hu
 |some r=>rw[hr]at hu;injection hu with hu;rw[<-hu,NJ];exact(hc j r hr).1
variable{m:List aK}
theorem uQ{l:List aK}{c:Nat}(ho:aH bh 38 1 w base v l)(hm:RR w w.heap.size A m)(hl:l.length+m.length<=4400000)(hb:base<=w.heap.size):
  ∃v' w',(Builtin.append_ #[29,29] 29 #[v,.slice A m.length c]).run prog w=.ok v' w'/\aH bh 38 1 w' base v' (l++m)/\w.grownBy w' v.ownBlock:=by
 obtain⟨i0,kB,hz0,hz1,hz2⟩:=info_parts iG;obtain⟨v',w',h1,h2,h3,_⟩:=gF (P:=prog) w base 29 29 38 i0 _ 1 24 underlying29 kB hz0 hz1 hz2 rfl WC v l.length (l.flatMap bh) ho _ A m.length c (m.flatMap bh) (abc hm) (λ u hu=>by obtain⟨y,_,hu⟩:=List.mem_flatMap.1 hu;simp[bh]at hu;subst hu;rfl) Tam WC hb
 refine⟨v',w',h1,?_,h3⟩;exact ZiI
def abd(rs:List aK)(w:t_)(x:Value):Prop:=∃A c out,x=.slice A (List.length out) c/\(out.map (·.l)).Perm (rs.map (·.l))/\out.Pairwise le/\RR w w.heap.size A out
variable{w':t_}{x:Value}
theorem abd.later(h:abd rs w x)(hb:ai w w'):abd rs w' x:=by obtain⟨A,c,out,h1,h2,h3,h4⟩:=h;exact⟨A,c,out,h1,h2,h3,h4.later hb⟩
structure Pg (W:t_) (ob oc:List aK) (s2 s5 s6:Option Value) (w:t_):Prop where
 low:ai W w
 a:s5=none->∀x,s2=some x->aH bh 38 1 w W.heap.size x ob
 b:∀x,s5=some x->aH bh 38 1 w W.heap.size x (ob++oc)
 c:∀x,s6=some x->abd (ob++oc) w x
 e5:s5.isSome=true->s2.isSome=true
 e6:s6.isSome=true->s5.isSome=true
section
variable{W w w':t_}{ob oc:List aK}{s2 s5 s6:Option Value}{v u:Value}
theorem Pg.later(h:Pg W ob oc s2 s5 s6 w)(hb:ai w w'):Pg W ob oc s2 s5 s6 w':=
 ⟨Below.trans h.low (hb.mono h.low.size),λ e x hx=>(h.a e x hx).later hb,λ x hx=>(h.b x hx).later hb,λ x hx=>(h.c x hx).later hb,h.e5,h.e6⟩
theorem Pg.start(W:t_)(ob oc:List aK):Pg W ob oc none none none W:=⟨cX,λ _ x h=>Tae,λ x h=>Tae,λ x h=>Tae,λ h=>Tae,λ h=>Tae⟩
theorem Pg.ayd(h:Pg W ob oc none s5 s6 w)(hb:ai w w')(ho:aH bh 38 1 w' W.heap.size v ob):Pg W ob oc (some v) s5 s6 w':=by have k:=h.later hb;exact⟨k.low,λ _ x hx=>TaK,k.b,k.c,λ _=>rfl,k.e6⟩
theorem Pg.akZ(h:Pg W ob oc (some u) none s6 w)(hg:w.grownBy w' u.ownBlock)(ho:aH bh 38 1 w' W.heap.size v (ob++oc)):Pg W ob oc (some u) (some v) s6 w':=by
 have h6:s6=none:=by
  cases e:s6 with
  |none=>rfl
  |some x=>have:=h.e6 (by rw[e];rfl);cases this
 subst h6;exact⟨Below.trans h.low (bj (h.a rfl u rfl) hg h.low.size),λ e=>TaT,λ x hx=>TaK,λ x hx=>(by cases hx),λ _=>rfl,λ e=>TaT⟩
theorem Pg.ala(h:Pg W ob oc s2 (some u) none w)(hb:ai w w')(ho:abd (ob++oc) w' v):Pg W ob oc s2 (some u) (some v) w':=by have k:=h.later hb;exact⟨k.low,k.a,k.b,λ x hx=>TaK,k.e5,λ _=>rfl⟩
end
def Tt(W:t_)(ob oc:List aK)(σ:Nat->Option Value)(w:t_):Prop:=Pg W ob oc (σ 2) (σ 5) (σ 6) w
def spU(gb gc:Nat)(OAb OAc:xP)(nb nc cb c_:Nat):Nat->Value:=λ i=>if i=0 then aY gb 1 else if i=1 then .slice OAb nb cb else if i=3 then aY gc 1 else if i=4 then .slice OAc nc c_ else undef
variable{out:List aK}{la:z_}
theorem Tu{m:z_}(h1:(out.map (·.l)).Perm m)(h2:la.Perm m)(h3:out.Pairwise le)(h4:la.Pairwise (λ a b=>bT a b<=0)):out.map (·.l)=la:=by refine List.Perm.eq_of_pairwise (le:=λ a b=>bT a b<=0) (λ a b _ _ ha hb=>eO a b ?_) (List.pairwise_map.2 h3) h4 (h1.trans h2.symm);have:=oM a b;omega
def zds.KaD(h:p:=by exact Zf7):=h
def zef.KaR(h:p:=by have r0:ρ (.tmp 62)=.slice RA rows.length rc:=hr.1;rw[kW]at hG;have e1:=hc.func 12;refine bu (f:=12) (args:= #[.slice RA rows.length rc]) (w':=w) (by simp[go_sem,e1,r0];done) ?_;refine(alb rc (HCR.ae.later hG.low)).mono ?_;rintro e w4 ⟨KK,rfl,hv,b4⟩;refine⟨_,rfl,?_⟩;show AH _ _ _ _ _;unfold AH;simp only[jr,Nat.reduceEqDiff,if_true,if_false];exact hG.axW b4 hv):=h
def zeg.KaR(h:p:=by have r0:ρ (.tmp 60)=oF q L:=hr.1;have r1:ρ (.tmp 61)=.slice CA cols.length cc:=hr.2.1;have r2:σ 3=some (ρ (.tmp 63)):=hr.2.2.1;obtain⟨A,c,rs,e2,I6,hm⟩:=hG.own kW _ r2;rw[kW]at hG;have e1:=hc.func 11;refine bu (f:=11) (args:= #[oF q L,.slice CA cols.length cc,.slice A rs.length c]) (w':=w) (by simp[go_sem,e1,r0,r1,e2];done) ?_;refine(Fc c (qP cc (IJ.ae.later hG.low) iT.ae Om.ae ((HCR.ae.later hG.low).same I6 hm))).mono ?_;rintro e w4 ⟨KK,rfl,hv,b4⟩;rw[hm]at hv;refine⟨_,rfl,?_⟩;show AH _ _ _ _ _;unfold AH;simp only[jr,Nat.reduceEqDiff,if_true,if_false];exact hG.axX b4 (by rw[r2];rfl) (hv.down hG.low.size)):=h
def zeh.KaR(h:p:=by have r0:σ 4=some (ρ (.tmp 64)):=hr.1;rw[kW]at hG;refine aq (v:=ρ (.tmp 64)) (w':=w) (by simp[go_sem];done) ?_;show AH _ _ _ _ _;unfold AH;simp only[jr,Nat.reduceEqDiff,if_true,if_false];exact hG.akZ r0):=h
def zei.KaR(h:p:=by have r0:σ 5=some (ρ (.tmp 59)):=hr.1;rw[kW]at hG;have h4:=hG.e5 _ r0;obtain⟨A1,n1,c1,A2,n2,LE,i,e,hv⟩:=(hG.run _ h4).tri;rw[hv]at h4;refine aq (v:=.agg #[.slice A1 n1 c1,.slice A2 n2 LE,af i]) (w':=w) (by simp[go_sem,hv];done) ?_;show AH _ _ _ _ _;unfold AH;simp only[jr,Nat.reduceEqDiff,if_true,if_false];exact hG.ala h4):=h
def zej.KaR(h:p:=by have r0:σ 5=some (ρ (.tmp 59)):=hr.1;rw[kW]at hG;have h4:=hG.e5 _ r0;obtain⟨A1,n1,c1,A2,n2,LE,i,e,hv⟩:=(hG.run _ h4).tri;rw[hv]at h4;refine aq (v:=e) (w':=w) (by simp[go_sem,hv];done) ?_;show AH _ _ _ _ _;unfold AH;simp only[jr,Nat.reduceEqDiff,if_true,if_false];exact hG.axY h4):=h
def zek.KaR(h:p:=by rw[kW]at hG;refine aq (v:=aw w.heap.size) (w':=w.alloc (.cells z33 33)) (by simp[go_sem,z33];done) ?_;show AH _ _ _ _ _;unfold AH;simp only[jr,Nat.reduceEqDiff,if_true,if_false];exact hG.xH):=h
def zel.KaR(h:p:=by have r0:σ 8=some (ρ (.tmp 9)):=hr.1;have r1:σ 6=some (ρ (.tmp 65)):=hr.2.1;rw[kW]at hG;obtain⟨NE,No,Xz⟩:=hG.cell r0;obtain⟨Kx,h6⟩:=hG.e6 _ r1;obtain⟨A1,n1,c1,A2,n2,LE,i,e,hv⟩:=(hG.run _ h6).tri;injection hv with hv;have hv0:=congrArg (λ a:x_=>a[0]?) hv;simp at hv0;rw[hv0]at h6;rw[No]at r0;have z0:=Xz.cell 0;have z1:=Xz.cell 1;have x2:=Xz.cell 2;simp only[z33,Uaa]at z0 z1 x2;have f0:=Xz.frozen 0;have f1:=Xz.frozen 1;have f2:=Xz.frozen 2;refine Yr (w':=((w.setCell ⟨NE,0,none⟩ (.slice A1 n1 c1)).setCell ⟨NE,1,none⟩ (.slice A2 n2 LE)).setCell ⟨NE,2,none⟩ (af i)) (by simp[go_sem,No,hv0,z0,z1,x2,f0,f1,f2];done) ?_;show AH _ _ _ _ _;unfold AH;simp only[jr,Nat.reduceEqDiff,if_true,if_false];exact hG.axZ r0 h6 _):=h
def zeC.KaX(h:p:=by go_big_quiet_step ((go_at_call 14;exact aN aE (cQ _)));open zds in exact Zbu):=h
def ze2.Ka5(h:p:=by have x7:=cL.cell 7;simp only[ft,Uaa]at y0 y1 c2 y3 y4 y5 y6 x7;show(execOp ρ _).run prog w=.ok (.value (oF q L)) w;simp[go_sem,r0,y0,y1,c2,y3,y4,y5,y6,x7,oF]):=h
def zhL.Kb9(h:p:=by show(execOp ρ _).run prog w=.ok (.value (.slice OAb BG.length ocb)) w;simp[go_sem,r0,y1]):=h
def zhM.Kb9(h:p:=by show(execOp ρ _).run prog w=.ok (.value (.slice OAc BH.length occ)) w;simp[go_sem,r0,y1]):=h
def ziy.Kcu(h:p:=by have r0:ρ (.tmp 166)=.slice OAb BG.length ocb:=hr.1;rw[kW]at hG;obtain⟨Lw,w',h1,h2,h3⟩:=uQ (w:=w) (base:=LG.heap.size) (v:=az) (l:=[]) (m:=BG) (c:=ocb) aH.nil (Rb.ae.later hG.low) (by have:=YN.ae;simp;omega) hG.low.size;refine aq (v:=Lw) (w':=w') (by simp only[execOp,resolve,invoke,builtin,Sem.run_bind,Sem.run_pure,Result.andThen_ok,map_toArray,map_cons,map_nil,r0,hc.const,h1]) ?_;show Tt _ _ _ _ _;unfold Tt;simp only[jr,Nat.reduceEqDiff,if_true,if_false];exact hG.ayd ⟨h3.os,h3.tape,h3.output,h3.size,λ i Xz=>h3.block i Xz (by simp[Value.ownBlock])⟩ Ta8):=h
def ziz.Kcu(h:p:=by have r0:σ 2=some (ρ (.tmp 167)):=hr.1;have r1:ρ (.tmp 169)=.slice OAc BH.length occ:=hr.2.1;rw[kW,r0]at hG;obtain⟨Lw,w',h1,h2,h3⟩:=uQ (w:=w) (base:=LG.heap.size) (m:=BH) (c:=occ) (hG.a rfl _ rfl) (Rc.ae.later hG.low) (by have:=YN.ae;have:=Za.ae;omega) hG.low.size;refine aq (v:=Lw) (w':=w') (by simp only[execOp,resolve,invoke,builtin,Sem.run_bind,Sem.run_pure,Result.andThen_ok,map_toArray,map_cons,map_nil,r1,hc.const,h1]) ?_;show Tt _ _ _ _ _;unfold Tt;simp only[jr,Nat.reduceEqDiff,if_true,if_false];rw[r0];exact hG.akZ h3 h2):=h
def ziA.Kcu(h:p:=by
 have r0:σ 5=some (ρ (.tmp 170)):=hr.1;rw[kW,r0]at hG;obtain⟨A',c',e2,I6⟩:=uP (hG.b _ rfl) λ r hr=>by rcases List.mem_append.1 hr with hr|hr;obtain⟨n,hn,rfl⟩:=getElem_of_mem hr;obtain⟨_,_,_,_,_,hv⟩:=(Rb.ae.later hG.low).at_ hn;exact hv;obtain⟨n,hn,rfl⟩:=getElem_of_mem hr;obtain⟨_,_,_,_,_,hv⟩:=(Rc.ae.later hG.low).at_ hn;exact hv
 have e1:=hc.func 19;refine bu (f:=19) (args:= #[.slice A' (BG++BH).length c']) (w':=w) Tax ?_;refine(abb A' c' (BG++BH) w I6 (by have:=HLS.ae;rw[length_append];omega) HMM.ae).mono ?_;rintro e w4 ⟨A2,LE,aG,rfl,hp,hs,hr2,_,b4⟩;refine⟨_,rfl,?_⟩;show Tt _ _ _ _ _;unfold Tt;simp only[jr,Nat.reduceEqDiff,if_true,if_false];rw[r0];exact hG.ala b4 ⟨A2,LE,aG,rfl,hp,hs,hr2⟩):=h
def zgk.KbC(h:p:=by
 rw[<-hg]at HX⊢;clear hg;have HX:=aa (show aB W1 g 27 (ft q L)from HX.ae);have y0:=HX.ae.cell 0;have y1:=HX.ae.cell 1;have c2:=HX.ae.cell 2;have y3:=HX.ae.cell 3;have y4:=HX.ae.cell 4;have y5:=HX.ae.cell 5;have y6:=HX.ae.cell 6;have x7:=HX.ae.cell 7;simp only[ft,Uaa]at y0 y1 c2 y3 y4 y5 y6 x7;go_wp2_with fail;have hgr:=(Yi.ae.later CQ.ae).great cc rc;unfold oF at hgr;refine hgr.mono ?_;rintro e W2 ⟨b,rfl,b2,bc⟩;have asp:=aa bc;replace CQ:=aa (aj.then CQ.ae b2);replace HX:=aa (HX.ae.later b2);clear hgr b2 bc y0 y1 c2 y3 y4 y5 y6 x7;have y0:=HX.ae.cell 0;have y1:=HX.ae.cell 1;have c2:=HX.ae.cell 2;have y3:=HX.ae.cell 3;have y4:=HX.ae.cell 4;have y5:=HX.ae.cell 5;have y6:=HX.ae.cell 6;have x7:=HX.ae.cell 7;simp only[ft,Uaa]at y0 y1 c2 y3 y4 y5 y6 x7;cases b;case true=>exact ZaR
 have HG:=aa (asp.ae rfl);clear asp;by_cases No:L.g.n=0
 ·have t1:((L.g.n:Int)==0)=true:=by simp[No]
  have t2:(L.g.n==0)=true:=by simp[No]
  exact ZaR
 have aye:((L.g.n:Int)==0)=false:=by simpa using No
 have ayf:(L.g.n==0)=false:=by simpa using No
 have ayg:decide (L.g.n=0)=false:=decide_eq_false No;by_cases hr:rows.length=0
 ·have t1:((rows.length:Int)==0)=true:=by simp[hr]
  have t2:(rows.length==0)=true:=by simp[hr]
  exact ZaR
 have ayh:((rows.length:Int)==0)=false:=by simpa using hr
 have ayi:(rows.length==0)=false:=by simpa using hr
 have ayj:decide (rows.length=0)=false:=decide_eq_false hr;by_cases hh:0<L.h.n;have t1:decide (0<L.h.n)=true:=decide_eq_true hh;exact ZaR;have ayk:decide (0<L.h.n)=false:=decide_eq_false hh;by_cases ho:0<L.o.n;have t1:decide (0<L.o.n)=true:=decide_eq_true ho;exact ZaR;have ayl:decide (0<L.o.n)=false:=decide_eq_false ho;by_cases hl:0<L.l.n;have t1:decide (0<L.l.n)=true:=decide_eq_true hl;exact ZaR;have aym:decide (0<L.l.n)=false:=decide_eq_false hl;go_upto_region 3 with fail;clear aye ayf ayg ayh ayi ayj ayk ayl aym y0 y1 c2 y3 y4 y5 y6 x7;have HIW:=aa (Yi.ae.later CQ.ae);have IJ:=aa HIW.ae.qy;have DD:=aa No;have PA:=aa hr;have HHN:=aa (show q.fE=[] from List.length_eq_zero_iff.1 (by have:=IJ.ae.h.n;omega));have HON:=aa (show q.ord=[] from List.length_eq_zero_iff.1 (by have:=IJ.ae.o.n;rw[length_map]at this;omega));have Az:=aa (show q.lim=[] from List.length_eq_zero_iff.1 (by have:=IJ.ae.l.1;omega));clear No hr hh ho hl;have iT:=aa HIW.ae.ok;have Om:=aa (HIW.ae.few HG.ae);have HCR:=aa (HIW.ae.cr_ HG.ae);refine kU _ _ (take_append_drop 10 _).symm (rgU q L CA cc cols RA rc rows) [3,4,5,6,7,8,9] (AH W2 (rows.map (·.l)) (iZ q cols (rows.map (·.l)))) (λ σ w h=>tB.later h cX.drew) (tB.start _ _ _) Taa Taa Taa Taa ?_ ?_
 ·simp only[take_succ_cons,take_zero];refine⟨?_,?_,?_,?_,?_,?_,?_,?_,?_,?_,trivial⟩
  ·intro ρ w σ hc hG hr he hno;refine⟨rfl,?_⟩;unfold AH at hG;rw[if_neg Tab];have r0:ρ (.tmp 4)=aw g:=hr.1;have cL:aB w g 27 (ft q L):=(hG.low.block g HX.ae.lt).trans HX.ae;open ze2 in exact ZcW
  ·intro ρ w σ hc hG hr he hno;refine⟨rfl,?_⟩;unfold AH at hG;rw[if_neg Tab];have r0:ρ (.tmp 1)=.slice CA cols.length cc:=hr.1;show(execOp ρ _).run prog w=.ok (.value (.slice CA cols.length cc)) w;simp[go_sem,r0]
  ·intro ρ w σ hc hG hr he hno;refine⟨rfl,?_⟩;unfold AH at hG;rw[if_neg Tab];have r0:ρ (.tmp 2)=.slice RA rows.length rc:=hr.1;show(execOp ρ _).run prog w=.ok (.value (.slice RA rows.length rc)) w;simp[go_sem,r0]
  ·open zef in exact Zcw
  ·open zeg in exact Zcw
  ·open zeh in exact Zcw
  ·open zei in exact Zcw
  ·open zej in exact Zcw
  ·open zek in exact Zcw
  open zel in exact Zcw
 intro σ Fu hM hG;simp only[Uab];intro a0 q0 a1 q1 a2 q2 a3 q3 a4 q4 a5 q5 a6 q6 eva q7 a8 q8;unfold AH at hG;replace q4:σ 4=some a4:=q4;replace q5:σ 5=some a5:=q5;replace q6:σ 6=some a6:=q6;replace q7:σ 7=some eva:=q7;replace q8:σ 8=some a8:=q8;obtain⟨v9,h9⟩:=Option.isSome_iff_exists.1 (hM 9 Tab);rw[q4,q5,q6,q7,q8,h9]at hG;obtain⟨ga,csa,ev',e4,e5,e6,e7,e8,No,Xz,hv,cL⟩:=hG.fin;have HR:=aa Xz;have Va:=aa hv;have Ba:=aa cL;have Ga:=aa No;clear q0 q1 q2 q3 q4 q5 q6 q7 q8 hG Xz hv cL No hM h9;subst e4 e5 e6 e7 e8;simp only[bw,Act.put,Uac];clear σ v9;replace CQ:=aa (aj.then CQ.ae Ba.ae);replace HX:=aa (HX.ae.later Ba.ae);replace IJ:=aa (IJ.ae.later Ba.ae);replace HCR:=aa (HCR.ae.later Ba.ae);clear HIW Ga;cases hr:iZ q cols (rows.map (·.l))with
 |error er=>
   rw[hr]at Va;obtain⟨hne,rfl,rfl⟩:=Va.ae.axU;have t1:(er != 0)=true:=by simp[hne]
   clear Va hr hne;exact ZaR
 |ok xx=>
   obtain⟨hd,la⟩:=xx;rw[hr]at Va;obtain⟨HA,hc,OA,oc,Gh,rfl,rfl,_,Z7,BD⟩:=Va.ae.ok_;have MY:=aa hr;have HRA:=aa Z7;have HLA:=aa BD;clear hr Z7 BD Va;obtain⟨ys,hln,Er,hall⟩:=Tf IJ.ae.g;obtain⟨g0,gs,alf⟩:∃g0 gs,q.aG=g0::gs:=by
    cases e:q.aG with
    |nil=>exact absurd (by have:=IJ.ae.g.n;rw[e]at this;exact this) DD.ae
    |cons a b=>exact⟨a,b,rfl⟩
   have ayn:=aa alf;rw[alf]at hall;unfold Tr.aO at hall;obtain⟨y,ys',rfl,hat,_⟩:=hall;have bc:=iT.ae.g;rw[alf]at bc;unfold Tr.cO at bc;obtain⟨bg,og,hgA,hgb,hyc⟩:=Er.at_ (k:=0) Tad;have oC:=aa (λ(row:aK) (hm:row∈rows) (w':t_) (hw:ai Fu w') (hv:RV w' w'.heap.size row.A row.l)=>Tr.Jq cols CA cc row.l row.A row.c (by have:=HG.ae.cl;omega) (by have:=HG.ae.each row hm;omega) (HCR.ae.each row hm).2 g0 y w' bc.1 (hat.later hw) (HCR.ae.cr.later hw) hv);have Cb:=aa hat;have HGL:=aa hln;clear Er hat bc hln;have NA:=HX.ae.lt;have y4:=HX.ae.cell 4;simp only[ft,Uaa]at y4;rw[hgA]at y4;simp only[Nat.zero_mul,Nat.add_zero]at hyc;have rp:=aa y4;have HYC:=aa hyc;have hg0:0<L.g.n:=by have:=DD.ae;omega
   obtain⟨Pe,o1,Wf,_,_,_⟩:=(HCR.ae.rr).at_ (show 0<rows.length by have:=PA.ae;omega);subst Wf;clear y4 hyc hgA;have hnz:((rows.length:Int)==0)=false:=by simpa using PA.ae
   have lQ:(0:Int)< rows.length:=by have:=PA.ae;omega
   have hx1:=Int.tmod_lt_of_pos x lQ;have hx2:=Int.lt_tmod_of_pos x lQ;have Pz:(rows.length:Int)<=100:=by have:=HG.ae.rn;omega
   generalize hxr:Int.tmod x rows.length=rk at*;go_upto_if 75 with fail;go_cut [11] (λ KK wx=>∃NX:Nat,NX<rows.length/\KK=af NX/\wx=Fu)
   case first=>
    by_cases zr:rk<0
    ·have e1:decide (rk<0)=true:=by simpa using zr
     go_wp2_with fail;go_meet;exact⟨(-rk).toNat,by omega,by go_num,rfl⟩
    have e1:decide (rk<0)=false:=by simpa using zr
    go_wp2_with fail;go_meet;exact⟨rk.toNat,by omega,by go_num,rfl⟩
   case rest=>
    obtain⟨ia,hia,rfl,hwc⟩:=hcut;rw[hwc];clear hwc hx1 hx2 hxr;have q4:=λ(w3:t_) (cL:ai Fu w3)=>((aj.then (Below.refl Fu.heap.size Fu) cL).cell (p:=⟨g,4,none⟩) NA).trans rp.ae;have FC:=λ(w3:t_) (cL:ai Fu w3)=>HYC.ae.keep (w':=w3) λ o=>(aj.then (Below.refl Fu.heap.size Fu) cL).cell (p:=⟨bg,o,none⟩) hgb;have ce0:=λ(w3:t_) (cL:ai Fu w3)=>(FC w3 cL).1;have ce1:=λ(w3:t_) (cL:ai Fu w3)=>(FC w3 cL).2.1;have ce2:=λ(w3:t_) (cL:ai Fu w3)=>(FC w3 cL).2.2.1;have ce3:=λ(w3:t_) (cL:ai Fu w3)=>(FC w3 cL).2.2.2.1;have ce4:=λ(w3:t_) (cL:ai Fu w3)=>(FC w3 cL).2.2.2.2.1;have ce5:=λ(w3:t_) (cL:ai Fu w3)=>(FC w3 cL).2.2.2.2.2.1;have ce6:=λ(w3:t_) (cL:ai Fu w3)=>(FC w3 cL).2.2.2.2.2.2;obtain⟨b2,o2,uJ,l2,LE,r2⟩:=(HCR.ae.rr.later (Below.refl Fu.heap.size Fu)).at_ hia;injection uJ with uJ;injection uJ with e1 e2;subst e1 e2;have cr:=λ(w3:t_) (cL:ai Fu w3)=>(cL.cell (p:=⟨Pe,o1+ia,none⟩) l2).trans LE;have na:=λ(w3:t_) (cL:ai Fu w3)=>oC.ae rows[ia] (getElem_mem hia) w3 (aj.then (Below.refl Fu.heap.size Fu) cL) (r2.later cL) w3 cX;obtain⟨v',e0,hg4⟩:∃KK e,g0.eval cols rows[ia].l=(KK,e):=⟨_,_,rfl⟩;rw[hg4]at na;unfold bP at na;go_upto_region 9 with fail;refine uK 15 (λ NX=>([aY g 4,.slice (some ⟨bg,og,none⟩) L.g.n L.g.c,aY bg og,.agg (ay y),.slice CA cols.length cc,.slice (some ⟨Pe,o1,none⟩) rows.length rc,af ia,aY Pe (o1+ia),.slice rows[ia].A rows[ia].l.length rows[ia].c,.tuple #[.agg (aC v'),af e0],.tuple #[.agg (aC v'),af e0],.agg (aC v'),af e0,undef,undef]:xr).getD NX undef) [⟨13,44,#[ag 0,af 0,au],14,(aC v')⟩] [9] Taa Taa Taa Taa Taa ?_ ?_
    ·simp only[take_succ_cons,take_zero];refine⟨Zfn,?_,?_,?_,Ze5,Zdm,?_,?_,?_,?_,?_,?_,?_,ZiA,?_,trivial⟩
     ·refine bp rfl rfl rfl λ ρ w3 hc cL hr=>?_
      have h0:ρ (.tmp 79)=aY g 4:=hr.1 Taa;exact ZgQ
     ·refine bp rfl rfl rfl λ ρ w3 hc cL hr=>?_
      have h0:ρ (.tmp 80)=.slice (some ⟨bg,og,none⟩) L.g.n L.g.c:=hr.1 Taa;exact Zhq
     ·refine bp rfl rfl rfl λ ρ w3 hc cL hr=>?_
      have h0:ρ (.tmp 81)=aY bg og:=hr.1 Taa;exact Zii
     ·refine bp rfl rfl rfl λ ρ w3 hc cL hr=>?_
      have h0:ρ (.tmp 11)=af ia:=hr.1;show(execOp ρ _).run _ w3=.ok (.value (af ia)) w3;exact ZdL
     ·refine bp rfl rfl rfl λ ρ w3 hc cL hr=>?_
      have h0:ρ (.tmp 84)=.slice (some ⟨Pe,o1,none⟩) rows.length rc:=hr.1 Taa;have h1:ρ (.tmp 85)=af ia:=hr.2.1 Taa;show(execOp ρ _).run _ w3=.ok (.value (aY Pe (o1+ia))) w3;simp[go_sem,hc.const,h0,h1,hia]
     ·refine bp rfl rfl rfl λ ρ w3 hc cL hr=>?_
      have h0:ρ (.tmp 86)=aY Pe (o1+ia):=hr.1 Taa;show(execOp ρ _).run _ w3=.ok (.value (.slice rows[ia].A rows[ia].l.length rows[ia].c)) w3;exact ZbF
     ·refine xl rfl rfl rfl λ ρ w3 hc cL hr=>?_
      have h0:ρ (.tmp 82)=.agg (ay y):=hr.1 Taa;have h1:ρ (.tmp 83)=.slice CA cols.length cc:=hr.2.1 Taa;have h2:ρ (.tmp 87)=.slice rows[ia].A rows[ia].l.length rows[ia].c:=hr.2.2.1 Taa;exact Ziv
     ·refine bp rfl rfl rfl λ ρ w3 hc cL hr=>?_
      have h0:ρ (.tmp 88)=.tuple #[.agg (aC v'),af e0]:=hr.1 Taa;show(execOp ρ _).run _ w3=.ok (.value (.tuple #[.agg (aC v'),af e0])) w3;exact ZdL
     ·refine bp rfl rfl rfl λ ρ w3 hc cL hr=>?_
      have h0:ρ (.tmp 78)=.tuple #[.agg (aC v'),af e0]:=hr.1 Taa;show(execOp ρ _).run _ w3=.ok (.value (.agg (aC v'))) w3;exact ZdL
     ·refine bp rfl rfl rfl λ ρ w3 hc cL hr=>?_
      have h0:ρ (.tmp 78)=.tuple #[.agg (aC v'),af e0]:=hr.1 Taa;show(execOp ρ _).run _ w3=.ok (.value (af e0)) w3;exact ZdL
     refine xj _ 44 (.tmp 12) (.tmp 89) rfl rfl rfl rfl Taa Taa Taa Taa λ ρ w3 gg hc hr=>?_;have h0:ρ (.tmp 12)=aw gg:=hr.1;have h1:ρ (.tmp 89)=.agg (aC v'):=hr.2.1 Taa;exact⟨h0,h1⟩
    intro w4 gg kB hbl hne;have pD:aB w4 (gg 13) 44 (aC v'):=(hbl _ (.head _)).2;have HZ:Fu.heap.size<=gg 13:=(hbl _ (.head _)).1;clear hbl hne;simp only[Uab,Wj,getD_cons_zero,getD_cons_succ,any_cons,any_nil,Act.put,Uac,Nat.reduceBEq,Nat.reduceAdd,Nat.zero_add,Bool.or_false,Bool.false_or,Bool.or_true,Bool.true_or,Bool.or_self,if_true,if_false,ite_true,ite_false,Bool.false_eq_true,beq_self_eq_true];generalize gg 13=g12 at*;clear gg ce0 ce1 ce2 ce3 ce4 ce5 ce6 FC cr na q4 r2 l2 LE;have HB:=aa kB;replace CQ:=aa (aj.then CQ.ae HB.ae);replace HX:=aa (HX.ae.later HB.ae);replace IJ:=aa (IJ.ae.later HB.ae);replace HR:=aa (HR.ae.later HB.ae);replace HRA:=aa (HRA.ae.later HB.ae);have LI:=aa hg4;have Ie:=aa pD;have uv:=aa HZ;clear kB hg4 pD HZ;by_cases he0:e0=0
    case neg=>
     have t1:(e0 != 0)=true:=by simpa using he0
     exact ZaR
    have t1:(e0 != 0)=false:=by simpa using he0
    clear he0;go_wp2_with fail;clear t1;go_loopw [14,15,16] (λ ov rv iv wr=>∃jx:Nat,jx<=rows.length/\iv=af jx/\aH bh 38 1 wr w4.heap.size ov ((rows.take jx).filter (λ r:aK=>jJ cols g0 v' r.l))/\aH bh 38 1 wr w4.heap.size rv ((rows.take jx).filter (λ r:aK=> !jJ cols g0 v' r.l))/\(∀q,ov.ownBlock=some q->rv.ownBlock≠some q)/\ai w4 wr) (λ _ _ iv _=>rows.length-(intOf iv).toNat);case atStart=>exact⟨0,gE,rfl,aH.nil,aH.nil,(λ q hq=>by simp[Value.ownBlock]at hq),cX⟩
    case round=>
     obtain⟨jx,qQ,rfl,qT,hfn,hz,hS⟩:=hrel;have Nj:=aa qT;have HFN:=aa hfn;have HK:=aa hz;have HS:=aa hS;have wu:=aa (Below.trans HB.ae (hS.mono HB.ae.size));clear qT hfn hz hS;by_cases FH:jx<rows.length
     ·have q4:=λ(w3:t_) (cL:ai wr w3)=>((aj.then wu.ae cL).cell (p:=⟨g,4,none⟩) NA).trans rp.ae
      have FC:=λ(w3:t_) (cL:ai wr w3)=>HYC.ae.keep (w':=w3) λ o=>(aj.then wu.ae cL).cell (p:=⟨bg,o,none⟩) hgb;have ce0:=λ(w3:t_) (cL:ai wr w3)=>(FC w3 cL).1;have ce1:=λ(w3:t_) (cL:ai wr w3)=>(FC w3 cL).2.1;have ce2:=λ(w3:t_) (cL:ai wr w3)=>(FC w3 cL).2.2.1;have ce3:=λ(w3:t_) (cL:ai wr w3)=>(FC w3 cL).2.2.2.1;have ce4:=λ(w3:t_) (cL:ai wr w3)=>(FC w3 cL).2.2.2.2.1;have ce5:=λ(w3:t_) (cL:ai wr w3)=>(FC w3 cL).2.2.2.2.2.1;have ce6:=λ(w3:t_) (cL:ai wr w3)=>(FC w3 cL).2.2.2.2.2.2;obtain⟨b2,o2,uJ,l2,LE,r2⟩:=(HCR.ae.rr.later wu.ae).at_ FH;injection uJ with uJ;injection uJ with e1 e2;subst e1 e2;have cr:=λ(w3:t_) (cL:ai wr w3)=>(cL.cell (p:=⟨Pe,o1+jx,none⟩) l2).trans LE;have na:=λ(w3:t_) (cL:ai wr w3)=>oC.ae rows[jx] (getElem_mem FH) w3 (aj.then wu.ae cL) (r2.later cL) w3 cX;obtain⟨v,e1,alh⟩:∃KK e,g0.eval cols rows[jx].l=(KK,e):=⟨_,_,rfl⟩;rw[alh]at na;unfold bP at na;go_upto_region 16 with fail;refine uK 15 (λ NX=>([aY g 4,.slice (some ⟨bg,og,none⟩) L.g.n L.g.c,aY bg og,.agg (ay y),.slice CA cols.length cc,.slice (some ⟨Pe,o1,none⟩) rows.length rc,af jx,aY Pe (o1+jx),.slice rows[jx].A rows[jx].l.length rows[jx].c,.tuple #[.agg (aC v),af e1],.tuple #[.agg (aC v),af e1],.agg (aC v),af e1,undef,undef]:xr).getD NX undef) [⟨13,44,#[ag 0,af 0,au],14,(aC v)⟩] [9] Taa Taa Taa Taa Taa ?_ ?_
      ·simp only[take_succ_cons,take_zero];refine⟨Zfn,?_,?_,?_,Ze5,Zdm,?_,?_,?_,?_,?_,?_,?_,ZiA,?_,trivial⟩
       ·refine bp rfl rfl rfl λ ρ w3 hc cL hr=>?_
        have h0:ρ (.tmp 101)=aY g 4:=hr.1 Taa;exact ZgQ
       ·refine bp rfl rfl rfl λ ρ w3 hc cL hr=>?_
        have h0:ρ (.tmp 102)=.slice (some ⟨bg,og,none⟩) L.g.n L.g.c:=hr.1 Taa;exact Zhq
       ·refine bp rfl rfl rfl λ ρ w3 hc cL hr=>?_
        have h0:ρ (.tmp 103)=aY bg og:=hr.1 Taa;exact Zii
       ·refine bp rfl rfl rfl λ ρ w3 hc cL hr=>?_
        have h0:ρ (.tmp 16)=af jx:=hr.1;show(execOp ρ _).run _ w3=.ok (.value (af jx)) w3;exact ZdL
       ·refine bp rfl rfl rfl λ ρ w3 hc cL hr=>?_
        have h0:ρ (.tmp 106)=.slice (some ⟨Pe,o1,none⟩) rows.length rc:=hr.1 Taa;have h1:ρ (.tmp 107)=af jx:=hr.2.1 Taa;show(execOp ρ _).run _ w3=.ok (.value (aY Pe (o1+jx))) w3;simp[go_sem,hc.const,h0,h1,FH]
       ·refine bp rfl rfl rfl λ ρ w3 hc cL hr=>?_
        have h0:ρ (.tmp 108)=aY Pe (o1+jx):=hr.1 Taa;show(execOp ρ _).run _ w3=.ok (.value (.slice rows[jx].A rows[jx].l.length rows[jx].c)) w3;exact ZbF
       ·refine xl rfl rfl rfl λ ρ w3 hc cL hr=>?_
        have h0:ρ (.tmp 104)=.agg (ay y):=hr.1 Taa;have h1:ρ (.tmp 105)=.slice CA cols.length cc:=hr.2.1 Taa;have h2:ρ (.tmp 109)=.slice rows[jx].A rows[jx].l.length rows[jx].c:=hr.2.2.1 Taa;exact Ziv
       ·refine bp rfl rfl rfl λ ρ w3 hc cL hr=>?_
        have h0:ρ (.tmp 110)=.tuple #[.agg (aC v),af e1]:=hr.1 Taa;show(execOp ρ _).run _ w3=.ok (.value (.tuple #[.agg (aC v),af e1])) w3;exact ZdL
       ·refine bp rfl rfl rfl λ ρ w3 hc cL hr=>?_
        have h0:ρ (.tmp 100)=.tuple #[.agg (aC v),af e1]:=hr.1 Taa;show(execOp ρ _).run _ w3=.ok (.value (.agg (aC v))) w3;exact ZdL
       ·refine bp rfl rfl rfl λ ρ w3 hc cL hr=>?_
        have h0:ρ (.tmp 100)=.tuple #[.agg (aC v),af e1]:=hr.1 Taa;show(execOp ρ _).run _ w3=.ok (.value (af e1)) w3;exact ZdL
       refine xj _ 44 (.tmp 17) (.tmp 111) rfl rfl rfl rfl Taa Taa Taa Taa λ ρ w3 gg hc hr=>?_;have h0:ρ (.tmp 17)=aw gg:=hr.1;have h1:ρ (.tmp 111)=.agg (aC v):=hr.2.1 Taa;exact⟨h0,h1⟩
      intro w5 gg kB hbl hne;have H17:aB w5 (gg 13) 44 (aC v):=(hbl _ (.head _)).2;have l17:wr.heap.size<=gg 13:=(hbl _ (.head _)).1;clear hbl hne;simp only[Uab,Wj,getD_cons_zero,getD_cons_succ,any_cons,any_nil,Act.put,Uac,Nat.reduceBEq,Nat.reduceAdd,Nat.zero_add,Bool.or_false,Bool.false_or,Bool.or_true,Bool.true_or,Bool.or_self,if_true,if_false,ite_true,ite_false,Bool.false_eq_true,beq_self_eq_true];generalize gg 13=g17 at*;clear gg ce0 ce1 ce2 ce3 ce4 ce5 ce6 FC cr na q4 r2 l2 LE;have LT:=aa kB;have HV1:=aa alh;have nx:=aa (show rows.take (jx+1)=rows.take jx++[rows[jx]] by rw[take_add_one,getElem?_eq_getElem FH];rfl);have Zj:=aa (show jJ cols g0 v' rows[jx].l=(e1==0&&bC v v'==0) by unfold jJ;rw[HV1.ae]);have hwt:=(Ie.ae.later HS.ae).later LT.ae;obtain⟨NO,o3,hA3,l3,c3,_⟩:=((HCR.ae.rr.later wu.ae).later LT.ae).at_ FH;injection hA3 with hA3;injection hA3 with q1 q2;subst q1 q2;have Bi:((rows.take jx).filter (λ r:aK=>jJ cols g0 v' r.l)).length<=100:=fK (length_filter_le _ _) Taz;have hk2:((rows.take jx).filter (λ r:aK=> !jJ cols g0 v' r.l)).length<=100:=fK (length_filter_le _ _) Taz;obtain⟨y0,y1,c2⟩:=aI H17;obtain⟨z0,z1,x2⟩:=aI hwt;have HL5:=aa kB;clear alh kB l17;by_cases No:e1=0
      ·have t1:(e1==0)=true:=by simpa using No
       go_wp2_with fail;refine(dQ v v' _).mono ?_;rintro e w6 ⟨rfl,b3⟩;have c6:=(b3.cell (p:=⟨Pe,o1+jx,none⟩) l3).trans c3;have HL6:=aa (aj.then LT.ae b3);clear y0 y1 c2 z0 z1 x2 c3 b3 hwt H17;by_cases Pd:bC v v'=0
       ·have t2:(bC v v'==0)=true:=by simpa using Pd
        replace Zj:=aa (show jJ cols g0 v' rows[jx].l=true by rw[Zj.ae,t1,t2];rfl);clear Pd;go_upto_region 18 with fail;clear t1 t2;have bn:=ah w6 (.cells #[.slice rows[jx].A rows[jx].l.length rows[jx].c] 38);have KH:=aa (aB.new w6 38 #[.slice rows[jx].A rows[jx].l.length rows[jx].c]);have xG:=aa ((Nj.ae.later HL6.ae).later bn);have ry:=aa ((HFN.ae.later HL6.ae).later bn);have zM:=aa (aj.then (aj.then HS.ae HL6.ae) bn);clear bn;go_wp2_with (first
         |(at_builtin
           refine eT (f:=bh) (y:=rows[jx]) rfl (.tmp 121) (.tmp 126) 29 rfl _ 24 underlying29 iG rfl WC rfl Tar rfl xG.ae w6.heap.size rfl KH.ae WC WC zM.ae.size ?_;intro v2 w2 o2 g2 m2;have B3:=aa (bj xG.ae g2 zM.ae.size);have TG:=aa (Fj xG.ae ry.ae HK.ae g2 m2);have O2:=aa o2;clear o2 g2 m2))
        go_roundw
        case rel=>
         refine⟨jx+1,FH,by go_num,?_,Zg1,TG.ae.2,zM.ae.trans B3.ae⟩;rw[nx.ae,filter_append,filter_cons_of_pos (by rw[Zj.ae])];exact O2.ae
        case measure=>exact Za2
       have t2:(bC v v'==0)=false:=by simpa using Pd
       replace Zj:=aa (show jJ cols g0 v' rows[jx].l=false by rw[Zj.ae,t1,t2];rfl);clear Pd;go_upto_region 19 with fail;clear t1 t2;have bn:=ah w6 (.cells #[.slice rows[jx].A rows[jx].l.length rows[jx].c] 38);have KH:=aa (aB.new w6 38 #[.slice rows[jx].A rows[jx].l.length rows[jx].c]);have xG:=aa ((HFN.ae.later HL6.ae).later bn);have ry:=aa ((Nj.ae.later HL6.ae).later bn);have zM:=aa (aj.then (aj.then HS.ae HL6.ae) bn);clear bn;go_wp2_with (first
        |(at_builtin
          refine eT (f:=bh) (y:=rows[jx]) rfl (.tmp 128) (.tmp 133) 29 rfl _ 24 underlying29 iG rfl WC rfl Tar rfl xG.ae w6.heap.size rfl KH.ae WC WC zM.ae.size ?_;intro v2 w2 o2 g2 m2;have B3:=aa (bj xG.ae g2 zM.ae.size);have TG:=aa (Fj xG.ae ry.ae (λ q h1 h2=>HK.ae q h2 h1) g2 m2);have O2:=aa o2;clear o2 g2 m2))
       exact Zcx
      have t1:(e1==0)=false:=by simpa using No
      replace Zj:=aa (show jJ cols g0 v' rows[jx].l=false by rw[Zj.ae,t1];rfl);go_upto_region 19 with fail;clear t1 y0 y1 c2 z0 z1 x2 hwt H17;have bn:=ah w5 (.cells #[.slice rows[jx].A rows[jx].l.length rows[jx].c] 38);have KH:=aa (aB.new w5 38 #[.slice rows[jx].A rows[jx].l.length rows[jx].c]);have xG:=aa ((HFN.ae.later HL5.ae).later bn);have ry:=aa ((Nj.ae.later HL5.ae).later bn);have zM:=aa (aj.then (aj.then HS.ae HL5.ae) bn);clear bn;go_wp2_with (first
       |(at_builtin
         refine eT (f:=bh) (y:=rows[jx]) rfl (.tmp 128) (.tmp 133) 29 rfl _ 24 underlying29 iG rfl WC rfl Tar rfl xG.ae w5.heap.size rfl KH.ae WC WC zM.ae.size ?_;intro v2 w2 o2 g2 m2;have B3:=aa (bj xG.ae g2 zM.ae.size);have TG:=aa (Fj xG.ae ry.ae (λ q h1 h2=>HK.ae q h2 h1) g2 m2);have O2:=aa o2;clear o2 g2 m2))
      exact Zcx
     obtain rfl:jx=rows.length:=by omega
     rw[take_length]at Nj HFN;have zO:=HCR.ae.later wu.ae;obtain⟨LA,lca,rfl,Z7⟩:=uP Nj.ae λ r hr=>by obtain⟨n,hn,rfl⟩:=getElem_of_mem (List.mem_filter.1 hr).1;obtain⟨_,_,_,_,_,hv⟩:=zO.rr.at_ hn;exact hv
     obtain⟨LB,lcb,rfl,hrb⟩:=uP HFN.ae λ r hr=>by obtain⟨n,hn,rfl⟩:=getElem_of_mem (List.mem_filter.1 hr).1;obtain⟨_,_,_,_,_,hv⟩:=zO.rr.at_ hn;exact hv
     have Qa:=aa (show CR wr CA cols LA (rows.filter (λ r:aK=>jJ cols g0 v' r.l))from⟨zO.env,zO.cr,zO.cl,Z7,fK (length_filter_le _ _) zO.rn,λ r hr=>zO.each r (List.mem_filter.1 hr).1⟩);have AU:=aa (show CR wr CA cols LB (rows.filter (λ r:aK=> !jJ cols g0 v' r.l))from⟨zO.env,zO.cr,zO.cl,hrb,fK (length_filter_le _ _) zO.rn,λ r hr=>zO.each r (List.mem_filter.1 hr).1⟩);obtain⟨lb,lc,hb1,cQ,hpm,hsd⟩:=XC ayn.ae HHN.ae HON.ae Az.ae MY.ae v';have Np:=aa (show iZ q cols ((rows.filter (λ r:aK=>jJ cols g0 v' r.l)).map (·.l))=.ok (hd,lb) by rw[<-hb1,filter_map];rfl);have HE2:=aa (show iZ q cols ((rows.filter (λ r:aK=> !jJ cols g0 v' r.l)).map (·.l))=.ok (hd,lc) by rw[<-cQ,filter_map];rfl);have HPM:=aa hpm;have HSD:=aa hsd;have ass:=Ts HG.ae _ _ MY.ae;have ast:la.length=lb.length+lc.length:=by have:=hpm.length_eq;rw[length_append]at this;exact this
     have HBD:=aa ass;have afW:=aa ast;replace CQ:=aa (Below.trans CQ.ae (HS.ae.mono CQ.ae.size));replace HX:=aa (HX.ae.later HS.ae);replace IJ:=aa (IJ.ae.later HS.ae);replace HR:=aa (HR.ae.later HS.ae);replace HRA:=aa (HRA.ae.later HS.ae);clear zO Z7 hrb hb1 cQ hpm hsd ass ast;have Vm:=Fc lca (qP cc IJ.ae iT.ae Om.ae Qa.ae);rw[Np.ae]at Vm;unfold oF at Vm;have Nm:=HX.ae.cell 0;have Ly:=HX.ae.cell 1;have z2:=HX.ae.cell 2;have z3:=HX.ae.cell 3;have z4:=HX.ae.cell 4;have z5:=HX.ae.cell 5;have z6:=HX.ae.cell 6;have z7:=HX.ae.cell 7;simp only[ft,Uaa]at Nm Ly z2 z3 z4 z5 z6 z7;go_upto_region 20 with fail;go_wp2_with fail;refine Vm.mono ?_;rintro e vy ⟨KK,rfl,hv,b10⟩;unfold jt at hv;obtain⟨HAb,hcb,OAb,ocb,BG,rfl,_,o2,o3,yB⟩:=hv;obtain⟨A',c',e4,h7⟩:=uP o2 λ r hr=>(o3 r hr).rv;injection e4 with e4 e5 e6;subst e4;have bn:=ah vy (.cells #[.slice HAb hd.length hcb,.slice OAb BG.length ocb,af lb.length] 33);have NW:=aa (aB.new vy 33 #[.slice HAb hd.length hcb,.slice OAb BG.length ocb,af lb.length]);have HSb:=aa (aj.then b10 bn);have Rb:=aa (h7.later bn);have HLb:=aa yB;have aFN:=aa b10.size;clear Vm b10 bn o2 o3 h7 yB e5 e6 Nm Ly z2 z3 z4 z5 z6 z7;go_upto_region 21 with fail;generalize vy.alloc _=w11 at*;generalize vy.heap.size=gb at*;replace CQ:=aa (aj.then CQ.ae HSb.ae);replace HX:=aa (HX.ae.later HSb.ae);replace IJ:=aa (IJ.ae.later HSb.ae);replace HR:=aa (HR.ae.later HSb.ae);replace HRA:=aa (HRA.ae.later HSb.ae);replace AU:=aa (AU.ae.later HSb.ae);have Dq:=Fc lcb (qP cc IJ.ae iT.ae Om.ae AU.ae);rw[HE2.ae]at Dq;unfold oF at Dq;have Nm:=HX.ae.cell 0;have Ly:=HX.ae.cell 1;have z2:=HX.ae.cell 2;have z3:=HX.ae.cell 3;have z4:=HX.ae.cell 4;have z5:=HX.ae.cell 5;have z6:=HX.ae.cell 6;have z7:=HX.ae.cell 7;simp only[ft,Uaa]at Nm Ly z2 z3 z4 z5 z6 z7;go_upto_region 21 with fail;go_wp2_with fail;refine Dq.mono ?_;rintro e w12 ⟨KK,rfl,hv,b10⟩;unfold jt at hv;obtain⟨HAc,hcc,OAc,occ,BH,rfl,_,o2,o3,hlc⟩:=hv;obtain⟨A',c',e4,h7⟩:=uP o2 λ r hr=>(o3 r hr).rv;injection e4 with e4 e5 e6;subst e4;have bn:=ah w12 (.cells #[.slice HAc hd.length hcc,.slice OAc BH.length occ,af lc.length] 33);have Kc:=aa (aB.new w12 33 #[.slice HAc hd.length hcc,.slice OAc BH.length occ,af lc.length]);have HSc:=aa (aj.then b10 bn);have Rc:=aa (h7.later bn);have HLc:=aa hlc;have aFO:=aa b10.size;clear Dq b10 bn o2 o3 h7 hlc e5 e6 Nm Ly z2 z3 z4 z5 z6 z7;go_upto_region 22 with fail;generalize w12.alloc _=LG at*;generalize w12.heap.size=gc at*;replace CQ:=aa (aj.then CQ.ae HSc.ae);replace HX:=aa (HX.ae.later HSc.ae);replace IJ:=aa (IJ.ae.later HSc.ae);replace HR:=aa (HR.ae.later HSc.ae);replace HRA:=aa (HRA.ae.later HSc.ae);replace NW:=aa (NW.ae.later HSc.ae);replace Rb:=aa (Rb.ae.later HSc.ae);have a0:=HR.ae.cell 0;have a1:=HR.ae.cell 1;have a2:=HR.ae.cell 2;have z0:=NW.ae.cell 0;have z1:=NW.ae.cell 1;have x2:=NW.ae.cell 2;have Nm:=Kc.ae.cell 0;have Ly:=Kc.ae.cell 1;have z2:=Kc.ae.cell 2;simp only[Uaa]at a0 a1 a2 z0 z1 x2 Nm Ly z2;have ayu:Gh.length=lb.length+lc.length:=by rw[<-afW.ae,<-HLA.ae,length_map]
     have yB:lb.length<=1000:=by have:=HBD.ae.2.1;have:=afW.ae;omega
     have hlc:lc.length<=1000:=by have:=HBD.ae.2.1;have:=afW.ae;omega
     have t1:((Gh.length:Int) !=(lb.length:Int)+(lc.length:Int))=false:=Tac;clear ayu;go_upto_region 24 with fail;clear t1;have YN:=aa (show BG.length<=1000 by rw[<-length_map (f:=(·.l)),HLb.ae];exact yB);have Za:=aa (show BH.length<=1000 by rw[<-length_map (f:=(·.l)),HLc.ae];exact hlc);have HLS:=aa (show BG.length+BH.length<=1000 by have e1:=congrArg List.length HLb.ae;have e2:=congrArg List.length HLc.ae;rw[length_map]at e1 e2;have:=HBD.ae.2.1;have:=afW.ae;omega);have HMM:=aa (show∀r∈BG++BH,r.l.length<=1000 from λ r hr=>HBD.ae.2.2 r.l (HPM.ae.mem_iff.2 (by rw[<-HLb.ae,<-HLc.ae,<-map_append];exact List.mem_map.2 ⟨r,hr,rfl⟩)));clear yB hlc a0 a1 a2 z0 z1 x2 Nm Ly z2;refine kU _ _ (take_append_drop 7 _).symm (spU gb gc OAb OAc BG.length BH.length ocb occ) [2,5,6] (Tt LG BG BH) (λ σ w h=>Pg.later h cX.drew) (Pg.start _ _ _) Taa Taa Taa Taa ?_ ?_
     ·simp only[take_succ_cons,take_zero];refine⟨?_,?_,?_,?_,?_,?_,?_,trivial⟩
      ·intro ρ w σ hc hG hr he hno;refine⟨rfl,?_⟩;unfold Tt at hG;rw[if_neg Tab];have r0:ρ (.tmp 19)=aw gb:=hr.1;show(execOp ρ _).run prog w=.ok (.value (aY gb 1)) w;simp[go_sem,r0]
      intro ρ w σ hc hG hr he hno;refine⟨rfl,?_⟩;unfold Tt at hG;rw[if_neg Tab];have r0:ρ (.tmp 165)=aY gb 1:=hr.1;have cL:aB w gb 33 _:=(hG.low.block gb NW.ae.lt).trans NW.ae;open zhL in exact Zf5
      ·open ziy in exact ZhK
      ·intro ρ w σ hc hG hr he hno;refine⟨rfl,?_⟩;unfold Tt at hG;rw[if_neg Tab];have r0:ρ (.tmp 21)=aw gc:=hr.1;show(execOp ρ _).run prog w=.ok (.value (aY gc 1)) w;simp[go_sem,r0]
      intro ρ w σ hc hG hr he hno;refine⟨rfl,?_⟩;unfold Tt at hG;rw[if_neg Tab];have r0:ρ (.tmp 168)=aY gc 1:=hr.1;have cL:aB w gc 33 _:=(hG.low.block gc Kc.ae.lt).trans Kc.ae;open zhM in exact Zf5
      ·open ziz in exact ZhK
      open ziA in exact ZhK
     intro σ Rk hM hG;simp only[Uab];intro a0 q0 a1 q1 a2 q2 a3 q3 a4 q4 a5 q5 a6 q6;unfold Tt at hG;replace q6:σ 6=some a6:=q6;rw[q6]at hG;obtain⟨A2,LE,aG,rfl,hp,hs,hr2⟩:=hG.c _ rfl;have B14:=aa hG.low;clear q0 q1 q2 q3 q4 q5 q6 hM hG;have Fz:=aa (Tu (hp.trans (by rw[map_append,HLb.ae,HLc.ae])) HPM.ae hs HSD.ae);have UG:=aa hr2;clear hp hs hr2;simp only[bw,Act.put,Uac];clear σ;replace CQ:=aa (aj.then CQ.ae B14.ae);replace HR:=aa (HR.ae.later B14.ae);replace HRA:=aa (HRA.ae.later B14.ae);have HO:=aa (show aG.length=Gh.length by have e1:=congrArg List.length (Fz.ae.trans HLA.ae.symm);rw[length_map,length_map]at e1;exact e1);have MQ:=aa (show∀r∈aG,r.l.length<=1000 from λ r hr=>HBD.ae.2.2 r.l (by rw[<-Fz.ae];exact List.mem_map.2 ⟨r,hr,rfl⟩));have zK:=aa (show∀r∈Gh,r.l.length<=1000 from λ r hr=>HBD.ae.2.2 r.l (by rw[<-HLA.ae];exact List.mem_map.2 ⟨r,hr,rfl⟩));have O6:aG.length<=1000:=by have e1:=congrArg List.length Fz.ae;rw[length_map]at e1;have:=HBD.ae.2.1;omega
     go_wp2_with fail;go_loopw [24] (λ iv wr=>∃i:Nat,i<=aG.length/\iv=af i/\ai Rk wr) (λ iv _=>aG.length-(intOf iv).toNat);case atStart=>exact Zhs
     case round=>
      obtain⟨i,Xz,rfl,cL⟩:=hrel;have ka:=HR.ae.later cL;have u1:=ka.cell 1;simp only[Uaa]at u1;have ual:=ka.lt;by_cases hlt:i<aG.length
      ·have fW:i<Gh.length:=by have:=HO.ae;omega
       obtain⟨b5,o5,hA5,l5,c5,r5⟩:=(UG.ae.later cL).at_ hlt;obtain⟨b3,o6,hA6,l6,c6,r6⟩:=(HRA.ae.later cL).at_ fW;have heq:aG[i].l=Gh[i].l:=by have h1:=congrArg (λ l=>l[i]?) (Fz.ae.trans HLA.ae.symm);simp only[getElem?_map,getElem?_eq_getElem hlt,getElem?_eq_getElem fW,Option.map_some]at h1;injection h1
       have t1:(bT aG[i].l Gh[i].l != 0)=false:=by rw[heq,oN];rfl
       rw[hA6]at u1;subst hA5;have k1:=λ x:Ext wr.heap.size wr=>(x.h.cell (p:=⟨ga,1,none⟩) ual).trans u1;have k3:=λ x:Ext wr.heap.size wr=>(x.h.cell (p:=⟨b5,o5+i,none⟩) l5).trans c5;have k4:=λ x:Ext wr.heap.size wr=>(x.h.cell (p:=⟨b3,o6+i,none⟩) l6).trans c6;have cQ:=λ x:Ext wr.heap.size wr=>wX aG[i].A aG[i].c aG[i].l Gh[i].A Gh[i].c Gh[i].l x.w (r5.later x.h) (r6.later x.h) (MQ.ae _ (getElem_mem hlt)) (zK.ae _ (getElem_mem fW));clear u1 c5 c6 l5 l6 r5 r6 hA6 heq ka;go_upto_region 28 with fail;refine aR 11 wr.heap.size wr cX Taa Taa Taa Taa ?_;open zeC in exact ZcI
      replace CQ:=aa (Below.trans CQ.ae (cL.mono CQ.ae.size));exact ZaR):=h
theorem qsplit_any(q:Qy)(L:QL)(CA:xP)(cc:Nat)(cols:List aZ)(RA:xP)(rc:Nat)(rows:List aK)(x:Int)(w:t_)(h:tC w q L CA cols RA rows):
  ar 7 #[oF q L,.slice CA cols.length cc,.slice RA rows.length rc,af x] w λ e w'=>e=.returned (.bool true)/\ai w w':=by
 have mixed:prog.follows .mixedOrders=true:=Taa;have Yi:=aa h;have Pe:=ah w (.cells (ft q L) 27);have k1:=aB.new w 27 (ft q L);have CQ:=aa Pe;have HX:=aa k1;clear h Pe k1;unfold oF;unfold ft at CQ HX;go_enter func7,ntmps7;open zgk in exact ZeH
def laidL:List (String×DataW Unit):=Rows.queryLimitRow.laid
noncomputable def laidW (os:Os):t_:=World.laidAll prog os laidL
theorem laid_os(os:Os):(laidW os).os=os:=World.laidAll_os _ _ _
theorem laid_met(os:Os)(args:x_):laidMet prog laidL ((laidW os).forCall (λ _ _=>0) ⟨#[],args,[]⟩).memory:=
 laidMet_laidAll _ Taa Taa
variable{W:t_}
theorem env_of(h:laidMetH prog laidL W):Bc W:=by rw[MakeChecks.laidMetH_plain _ _ _ Taa]at h;have h3:laidMet prog [("internal/strconv.uint64pow10",Lib.tabData .u64 Lib.pow10Tab)] W:=h.tail.tail;exact Lib.tabIs_of_head (g:=0) (t:=261) (e:=195) (n:=20) Taa Taa underlying261 underlying195 Taa Taa h3
section
variable{H:Type}{enc:TypeId×Value->H}{W:t_}{base:Nat}{v0 v1 v2:Value}{d0 d1 d2:DataW H}{p0 p1 p2:List MemPlace}
theorem law_in(o0:Value.okWide prog W .any base 27 v0)(k0:DataW.Trod enc prog W 0 (λ _=>true) true 27 v0 d0 p0)(l0:Light 27 d0)
  (o1:Value.okWide prog W .any base 28 v1) (k1:DataW.Trod enc prog W 0 (λ _=>true) true 28 v1 d1 p1) (l1:Light 28 d1)
  (o2:Value.okWide prog W .any base 29 v2) (k2:DataW.Trod enc prog W 0 (λ _=>true) true 29 v2 d2 p2) (l2:Light 29 d2)
  (hb:Rows.uptoBulk d0<=1048576) (hE:Bc W):∃q L CA cc cols RA rc rows,v0=oF q L/\v1=.slice CA (List.length cols) cc/\v2=.slice RA (List.length rows) rc/\tC W q L CA cols RA rows:=by obtain⟨q,L,rfl,Q⟩:=Tp o0 k0 l0;obtain⟨CA,cols,cc,rfl,c1,c2,_⟩:=VR o1 k1 l1;obtain⟨RA,rows,rc,rfl,r1,r2,r3⟩:=YD o2 k2 l2;obtain⟨s1,s2,s3⟩:=Q.small hb;have:=Q.nodes;exact⟨q,L,CA,cc,cols,RA,rc,rows,rfl,rfl,rfl,Q.at_,Q.ok,s1,by omega,s2,s3,Q.lim,hE,c1,c2,r1,r2,λ r hr=>⟨(r3 r hr).1,λ v hv=>((r3 r hr).2 v hv).1⟩⟩
end
end Go.Proofs.YtndgjggokjickaaGreatDoor
