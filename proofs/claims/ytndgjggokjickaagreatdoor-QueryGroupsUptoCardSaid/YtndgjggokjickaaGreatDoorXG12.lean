/- Parts of the proof. -/
import Derived.Lay
import Derived.LaidMore
import Derived.Stop.LaidErr
import Derived.HandedShaped
import Derived.Deep.DeepHandedRow
import Derived.Test.YtndgjggokjickaaGreatDoorXG11
namespace Go.Proofs.YtndgjggokjickaaGreatDoor
open List
variable{p:Prop}
set_option maxHeartbeats 90000000
set_option maxRecDepth 100000
set_option linter.unusedVariables false
set_option linter.unusedSimpArgs false
def XK (sum:t_):Tr:=.mk 2 aC sum 0 []
def aal (cols:List aV)(eJ:uF)(r:v_):v_:=eJ.map λ t=>(t.eval cols r).1
def jW (cols:List aV)(eJ:uF)(sum:t_)(K:y_):List (v_×List (Val×Val)):=K.map λ r=>(aal cols eJ r,[(aC,aC),(((XK sum).eval cols r).1,aC)])
theorem zJ (ps:List (v_×List (Val×Val)))(k:v_):cD [21,23] ps k=[dG (cy 21 (eu 0 ps k)),dG (cy 23 (eu 1 ps k))]:=rfl
variable{cols:List aV}{eJ:uF}{K:y_}
theorem Uj{sum:t_}  {k:v_}(h:k∈bZ eJ.length ((jW cols eJ sum K).map (·.1))):k.length=eJ.length/\(eJ≠ []->∃r∈K,k=aal cols eJ r):=by
 unfold bZ at h;split at h
 ·rename_i h0;rw[mem_singleton] at h;subst h;exact⟨h0.symm,λ hn=>absurd (eq_nil_of_length_eq_zero h0) hn⟩
 ·have hm:=((oa fC fD _).2 _).1 h;obtain⟨x,hx,rfl⟩:=List.mem_map.1 hm;unfold jW at hx;obtain⟨r,hr,rfl⟩:=List.mem_map.1 hx;exact⟨by simp[aal],λ _=>⟨r,hr,rfl⟩⟩
variable{bF:uF}{rows la:y_}
theorem Uk{sum:t_}   {p:ix} (hn:eJ.length<=3)(G:ahd eJ sum p)(h:Goes (gq eJ sum bF) p cols rows la):
  la.Perm ((bZ eJ.length ((jW cols eJ sum (eR cols bF rows)).map (·.1))).map λ k=>num (eu 0 (jW cols eJ sum (eR cols bF rows)) k).length::(dG (cy 23 (eu 1 (jW cols eJ sum (eR cols bF rows)) k))).1::eJ.map λ t=>k.getD (idxOf eJ t) aC)
  /\∀k∈bZ eJ.length ((jW cols eJ sum (eR cols bF rows)).map (·.1)),(dG (cy 23 (eu 1 (jW cols eJ sum (eR cols bF rows)) k))).2=0:=by
 have e1:(gq eJ sum bF).aF++p.st.aD.flatMap Tr.args=eJ++ [XK sum]:=by rw[G.aD];rfl
 have e2:p.st.aD.map Tr.op=[21,23]:=by rw[G.aD];rfl
 have e0:(gq eJ sum bF).aF.length=eJ.length:=rfl;have ew:(gq eJ sum bF).bF=bF:=rfl;have hg:=h.aF;have hl:=h.line;have ha:=h.ans;rw[e1,e2,e0,ew] at hg hl ha;have ahe:∀r,nL cols eJ.length (eJ++ [XK sum]) p.st.aD r=(aal cols eJ r,[(aC,aC),(((XK sum).eval cols r).1,aC)]):=by intro r;unfold nL;rw[TN,map_append,take_left' Taa,drop_left' Taa,G.aD];rfl
 have nr:(eR cols bF rows).map (nL cols eJ.length (eJ++ [XK sum]) p.st.aD)=jW cols eJ sum (eR cols bF rows):=map_congr_left λ r _=>ahe r
 have nV:(eR cols bF rows).map (λ r=>(Kl cols r (eJ++ [XK sum])).take eJ.length)=(jW cols eJ sum (eR cols bF rows)).map (·.1):=by
  unfold jW;rw[map_map];refine map_congr_left λ r _=>?_
  have:=congrArg Prod.fst (ahe r);exact this
 rw[nr,nV] at hg hl ha;generalize hKK:jW cols eJ sum (eR cols bF rows)=ps at*;have hkey:∀k∈bZ eJ.length (ps.map (·.1)),k.length=eJ.length:=λ k hk=>by rw[<- hKK] at hk;exact(Uj hk).1
 have hB:∀k∈bZ eJ.length (ps.map (·.1)),(dG (cy 23 (eu 1 ps k))).2=0:=by
  intro k hk;have h1:=hg k hk;rw[zJ] at h1;unfold bQ at h1;rw[TM] at h1;rw[if_neg Taa] at h1;unfold bQ at h1;by_cases hz:(dG (cy 23 (eu 1 ps k))).2=0
  ·exact hz
  ·rw[if_pos hz] at h1;exact h1
 refine⟨?_,hB⟩;subst ha;refine((lZ _ _).map fg.row).trans (List.Perm.of_eq ?_);rw[map_map];refine map_congr_left λ k hk=>?_
 show(vS p (rowOf [21,23] ps k) (Kl p.st.aF (rowOf [21,23] ps k) (p.items++p.order))).row=_;have tH:=hkey k hk;have h2:=hl k hk;have hrow:rowOf [21,23] ps k=k++ [num (eu 0 ps k).length,(dG (cy 23 (eu 1 ps k))).1]:=by unfold rowOf;rw[zJ,TM];rfl
 have ajP:p.items++p.order=p.items:=by rw[G.order,append_nil]
 rw[ajP] at h2 ⊢;unfold weL at h2;have hz:=GL h2;have hne:p.items≠ []:=by rw[G.items];simp
 unfold vS;rw[if_neg hne];show(Kl p.st.aF (rowOf [21,23] ps k) p.items).take p.items.length=_;rw[TN,take_of_length_le Taa];have hval:∀m:Nat,m < eJ.length+2->ma m∈p.items->((ma m).eval p.st.aF (rowOf [21,23] ps k)).1=(rowOf [21,23] ps k).getD m aC:=λ m hm uA=>WK G.name (by rw[G.len];omega) (by rw[G.len];exact hm) (hz _ uA)
 have uA:=G.items;rw[G.items,map_cons,map_cons,hval _ TD (by rw[uA];simp),hval _ TD (by rw[uA];simp),hrow,map_map];have a1:(k++ [num (eu 0 ps k).length,(dG (cy 23 (eu 1 ps k))).1]).getD eJ.length aC=num (eu 0 ps k).length:=by rw[getD_eq_getElem?_getD,getElem?_append_right TD,tH,Nat.sub_self];rfl
 have a2:(k++ [num (eu 0 ps k).length,(dG (cy 23 (eu 1 ps k))).1]).getD (eJ.length+1) aC=(dG (cy 23 (eu 1 ps k))).1:=by rw[getD_eq_getElem?_getD,getElem?_append_right TD,tH,Nat.add_sub_cancel_left];rfl
 rw[a1,a2];congr 2;refine map_congr_left λ t ht=>?_
 obtain⟨i1,i2⟩:=NM ht;show((ma (idxOf eJ t)).eval p.st.aF (k++ [num (eu 0 ps k).length,(dG (cy 23 (eu 1 ps k))).1])).1=_;have h3:=hval (idxOf eJ t) TD (by rw[uA];simp only[mem_cons,mem_map];exact .inr (.inr ⟨t,ht,rfl⟩));rw[hrow] at h3;rw[h3,getD_eq_getElem?_getD,getD_eq_getElem?_getD,getElem?_append_left TD]
variable{α:Type}
theorem NN(f g:α->Int)(m:Int):∀l:List α,(∀x∈l,f x % m=g x % m)->dx (l.map f)% m=dx (l.map g)% m
 | [],_=>rfl
 | x::l,h=>by simp only[map_cons,dx];rw[Int.add_emod,h x (mem_cons_self ..),NN f g m l λ y hy=>h y (mem_cons_of_mem _ hy),<- Int.add_emod]
theorem NP(f:α->Int):∀l:List α,(∀x∈l,0<=f x)->0<=dx (l.map f)/\(dx (l.map f)=0↔∀x∈l,f x=0)
 | [],_=>by simp[dx]
 | x::l,h=>by
   have h1:=h x (mem_cons_self ..);obtain⟨h2,h3⟩:=NP f l λ y hy=>h y (mem_cons_of_mem _ hy)
   simp only[map_cons,dx];refine⟨by omega,λ e=>?_,λ e=>?_⟩
   ·have e1:f x=0:=by omega
    have e2:dx (l.map f)=0:=by omega
    intro y hy;rcases List.mem_cons.1 hy with rfl | hy
    ·exact e1
    ·exact h3.1 e2 y hy
   ·rw[e x (mem_cons_self ..),h3.2 λ y hy=>e y (mem_cons_of_mem _ hy)];rfl
theorem afm (ps:List (v_×List (Val×Val)))(i:Nat)(k:v_)(f:Val×Val->Int):dx ((eu i ps k).map f)=dx ((ps.filter λ x=>bR x.1 k==0).map λ x=>f (x.2.getD i (aC,aC))):=by unfold eu;rw[map_map];rfl
structure arW (N:Nat) (a b:y_):Prop where
 two:∃x y:Val,a=[[x,y]]/\dx (b.map λ r=>(r.getD 0 aC).n)=x.n/\0<=x.n/\x.n<=N/\dx (b.map λ r=>(r.getD 1 aC).n)% 18446744073709551616=y.n % 18446744073709551616/\ -9223372036854775808<=y.n/\y.n<=9223372036854775807/\(b.any λ r=>(r.getD 1 aC).k==2)=(y.k==2)
 long:∀r∈b,2<=r.length
 apart:b.Pairwise λ r r'=>bR (r.drop 2) (r'.drop 2)≠0
variable{a b:y_}{ha hb:List aV}
theorem Sd{sum:t_}    (hn:eJ.length<=3)(h0:eJ≠ [])(Kn:jx (gq [] sum bF) cols rows=.ok (ha,a))(JI:jx (gq eJ sum bF) cols rows=.ok (hb,b)):arW rows.length a b:=by
 cases hp:dV (gq [] sum bF) cols with
 | error e=>unfold jx at Kn;rw[hp] at Kn;cases Kn
 | ok p=>
 cases hq:dV (gq eJ sum bF) cols with
 | error e=>unfold jx at JI;rw[hq] at JI;cases JI
 | ok q=>
 have gp:=Ui hp;have gq':=Ui hq;obtain⟨_,hga⟩:=(MQ hp gp.aI gp.having rfl rfl).1 Kn;obtain⟨_,hgb⟩:=(MQ hq gq'.aI gq'.having rfl rfl).1 JI;obtain⟨pa,za⟩:=Uk Taa gp hga;obtain⟨pb,zb⟩:=Uk hn gq' hgb;clear hga hgb gp gq' hp hq Kn JI;have hKN:(eR cols bF rows).length<=rows.length:=by unfold eR;exact length_filter_le _ _
 generalize eR cols bF rows=K at*;have Zg:bZ ([]:uF).length ((jW cols [] sum K).map (·.1))=[[]]:=rfl;rw[Zg] at pa za;rw[map_cons,map_nil] at pa;have ha1:=List.perm_singleton.1 pa;have zA:=za [] (mem_singleton_self _);have ahf:∀i,eu i (jW cols [] sum K) []=(jW cols [] sum K).map λ r=>r.2.getD i (aC,aC):=by intro i;unfold eu;rw[List.filter_eq_self.2];intro x hx;unfold jW at hx;obtain⟨r,_,rfl⟩:=List.mem_map.1 hx;rfl
 have arX:(eu 0 (jW cols [] sum K) []).length=K.length:=by rw[ahf];simp[jW]
 have aam:eu 1 (jW cols [] sum K) []=(jW cols eJ sum K).map λ r=>r.2.getD 1 (aC,aC):=by rw[ahf];unfold jW;rw[map_map,map_map];rfl
 rw[arX,aam] at ha1;rw[aam] at zA;have tH:(jW cols eJ sum K).length=K.length:=by simp[jW]
 have Ul:(bZ eJ.length ((jW cols eJ sum K).map (·.1))).Pairwise (λ a b=>bR a b < 0):=MB _ _;have uA:∀x∈jW cols eJ sum K,x.1∈bZ eJ.length ((jW cols eJ sum K).map (·.1)):=by intro x hx;unfold bZ;rw[if_neg (λ h=>h0 (eq_nil_of_length_eq_zero h))];exact((oa fC fD _).2 _).2 (mem_map_of_mem hx)
 have YH:∀k∈bZ eJ.length ((jW cols eJ sum K).map (·.1)),(eJ.map λ t=>k.getD (idxOf eJ t) aC)=k:=by
  intro k hk;obtain⟨_,h2⟩:=Uj hk;obtain⟨r,_,rfl⟩:=h2 h0;unfold aal;refine map_congr_left λ t ht=>?_
  obtain⟨_,i2⟩:=NM ht;rw[getD_eq_getElem?_getD,getElem?_map,i2];rfl
 generalize nr:jW cols eJ sum K=ps at*;generalize nV:bZ eJ.length (ps.map (·.1))=ks at*;have pb2:b.Perm (ks.map λ k=>num (eu 0 ps k).length::(dG (cy 23 (eu 1 ps k))).1::k):=by refine pb.trans (List.Perm.of_eq (map_congr_left λ k hk=>?_));rw[YH k hk]
 have akI:∀f:Val×Val->Int,∀i,dx (ks.map λ k=>dx ((eu i ps k).map f))=dx (ps.map λ x=>f (x.2.getD i (aC,aC))):=by intro f i;rw[<- GI (λ x:v_×List (Val×Val)=>f (x.2.getD i (aC,aC))) ks Ul ps uA];congr 1;exact map_congr_left λ k _=>afm ps i k f
 refine⟨⟨num K.length,(dG (cy 23 (ps.map λ r=>r.2.getD 1 (aC,aC)))).1,ha1,?_,by simp[num],Int.ofNat_le.2 hKN,?_,(jU zA).2.1,(jU zA).2.2.1,?_⟩,?_,?_⟩
 ·rw[GH (pb2.map _),map_map];have h1:=akI (λ _=>1) 0;have h2:dx (ps.map λ _=>(1:Int))=K.length:=by rw[<- Ds,tH]
  rw[h2] at h1;rw[show(num K.length).n=(K.length:Int)from rfl,<- h1];congr 1;refine map_congr_left λ k _=>?_
  rw[<- Ds];rfl
 ·rw[(jU zA).1,Dr,map_map,GH (pb2.map _),map_map];have h1:=akI (Eg 23) 1;have h2:dx (ps.map ((Eg 23)∘ λ r=>r.2.getD 1 (aC,aC)))=dx (ps.map λ x=>Eg 23 (x.2.getD 1 (aC,aC))):=rfl;rw[h2,<- h1];refine NN _ _ _ ks λ k hk=>?_
  rw[<- Dr];exact(jU (zb k hk)).1
 ·rw[(jU zA).2.2.2,rO,map_map];have h1:=akI (one 23) 1;have h2:dx (ps.map ((one 23)∘ λ r=>r.2.getD 1 (aC,aC)))=dx (ps.map λ x=>one 23 (x.2.getD 1 (aC,aC))):=rfl;rw[h2,<- h1];have h3:=NP (λ k=>dx ((eu 1 ps k).map (one 23))) ks λ k _=>by rw[<- rO];exact(JE _).1
  rw[Bool.eq_iff_iff,any_eq_true,decide_eq_true_eq,ne_eq,h3.2];constructor
  ·rintro⟨r,hr,hk⟩ hz;obtain⟨k,Z1,rfl⟩:=List.mem_map.1 (pb2.mem_iff.1 hr);have h4:=(jU (zb k Z1)).2.2.2;have hk:((dG (cy 23 (eu 1 ps k))).1.k==2)=true:=hk;rw[h4,decide_eq_true_eq,rO] at hk;exact hk (hz k Z1)
  ·intro hz;have:∃k∈ks,dx ((eu 1 ps k).map (one 23))≠0:=Classical.byContradiction λ hc=>hz λ k hk=>Classical.byContradiction λ h5=>hc ⟨k,hk,h5⟩
   obtain⟨k,hk,h5⟩:=this;refine⟨_,pb2.mem_iff.2 (mem_map_of_mem hk),?_⟩;show((dG (cy 23 (eu 1 ps k))).1.k==2)=true;rw[(jU (zb k hk)).2.2.2,decide_eq_true_eq,rO];exact h5
 ·intro r hr;obtain⟨k,_,rfl⟩:=List.mem_map.1 (pb2.mem_iff.1 hr);simp
 ·refine(pb2.pairwise_iff (R:=λ r r'=>bR (r.drop 2) (r'.drop 2)≠0) λ {x y} h=>?_).2 ?_
  ·have:=fC.jd (x.drop 2) (y.drop 2);omega
  ·rw[pairwise_map];exact Ul.imp λ {x y} h=>by show bR x y≠0;omega
open Go.ChangeShapes Go.WideShapes Go.ChangeAt Go.RowKit
def qm (x:Ex×Value):wL:=bD x.1++ [x.2]
theorem NQ:(Tryz.prog.info? 48).map (λ i=>(i.zero,i.size,i.bytes))=some (some (.agg #[ag 0,ag 0,af 0,au,au,af 0,ay,au]),8,104):=by exact ZgH
theorem ahg:∀l:List (Ex×Value),(l.flatMap qm).length=l.length*8
 | []=>rfl
 | y::l=>by rw[flatMap_cons,length_append,ahg l,length_cons,show(qm y).length=8 from rfl];omega
variable{w:rQ}{B:Nat}{A:z_}{l:List (Ex×Value)}
theorem RI.reads(h:RI w B A l):Reads w B 8 A l.length (l.flatMap qm):=by
 refine⟨ahg l,λ hn=>?_⟩;rcases h with h |⟨b,off,hA,hb,hc⟩
 ·subst h;simp at hn
 ·refine⟨⟨b,off,none⟩,hA,hb,λ j u hu=>?_⟩;obtain⟨k,r,x,rfl,hr,h2,h3⟩:=wE (f:=qm) (size:=8) (λ _=>rfl) TD l j u hu;rw[Mp,<- Nat.add_assoc];obtain⟨h4,h5⟩:=hc k x h2;by_cases h7:r < 7
  ·exact Tt h4 h7 (by unfold qm at h3;rw[getElem?_append_left (by rw[rp];exact h7)] at h3;exact h3)
  ·obtain rfl:r=7:=by omega
   injection h3 with h3;rw[<- h3];exact h5
variable{base:Nat}{v:Value}
theorem Sg(h:aH qm 48 8 w base v l):∃A c,v=.slice A l.length c/\RI w w.heap.size A l:=by
 obtain⟨A,c,hv,hc⟩:=dT (f:=qm) (size:=8) (λ _=>rfl) h;refine⟨A,c,hv,?_⟩;rcases hc with hc |⟨g,hA,hg,hc⟩
 ·exact .inl hc
 ·refine .inr ⟨g,0,hA,hg,λ i x hx=>?_⟩;have k:=λ j u hj hu=>hc i x j u hx hj hu
  unfold cg;rw[Nat.zero_add];exact⟨⟨by simpa using k 0 _ TD rfl,k 1 _ TD rfl,k 2 _ TD rfl,k 3 _ TD rfl,k 4 _ TD rfl,k 5 _ TD rfl,k 6 _ TD rfl⟩,k 7 _ TD rfl⟩
theorem afn(h:∀x∈l,x.2.oneCell'=true):∀u∈l.flatMap qm,u.oneCell'=true:=by
 intro u hu;obtain⟨y,hy,hu⟩:=List.mem_flatMap.1 hu;unfold qm at hu;rcases List.mem_append.1 hu with hu | hu
 ·exact Jd [y.1] u (by simpa using hu)
 ·rw[List.mem_singleton.1 hu];exact h y hy
variable{c:Nat}
theorem XL(hm:RI w w.heap.size A l)(h1:∀x∈l,x.2.oneCell'=true)(hl:l.length<=4400000):
  ∃v' w',(Builtin.append_ #[22,22] 22 #[ay,.slice A l.length c]).run Tryz.prog w=.ok v' w'/\aH qm 48 8 w' w.heap.size v' l/\aj w w':=by obtain⟨i0,kL,hz0,hz1,hz2⟩:=info_parts NQ;obtain⟨v',w',k1,k2,k3,_⟩:=gH (P:=Tryz.prog) w w.heap.size 22 22 48 i0 _ 8 104 Tryz.underlying22 kL hz0 hz1 hz2 rfl TD (ay) 0 [] (aH.nil (f:=qm)) _ A l.length c (l.flatMap qm) hm.reads (afn h1) Tak TD (Nat.le_refl _);refine⟨v',w',k1,?_,bj (aH.nil (f:=qm) (e:=48) (size:=8)) k3 (Nat.le_refl _)⟩;unfold aH;simpa using k2
def JZ (w:rQ)(B:Nat)(v:Value)(l:List (Ex×Value)):Prop:=aH qm 48 8 w B v l
variable{w':rQ}
theorem JZ.later(h:JZ w B v l)(hb:ai w w'):JZ w' B v l:=aH.later h hb
def gqk (tb:uF)(sum:t_)(tw:uF)(k:Nat):List (Tr×Value):=(gq (tb.take k) sum tw).items.map λ x=>(x.1,.string x.2)
variable{tb tw:uF}{k:Nat}
theorem NR{sum:t_}  (h:k < tb.length):gqk tb sum tw (k+1)=gqk tb sum tw k++ [(tb[k],.string ByteArray.empty)]:=by unfold gqk;show List.map _ (_::_::(tb.take (k+1)).map _)=List.map _ (_::_::(tb.take k).map _)++_;rw[take_add_one,getElem?_eq_getElem h];simp only[Option.toList_some,map_append,map_cons,map_nil,cons_append]
theorem afo(tb:uF)(sum:t_)(tw:uF) (h:k<=tb.length):(gqk tb sum tw k).length=k+2:=by unfold gqk;rw[length_map];show(((tb.take k).map λ t=>(t,ByteArray.empty)).length+1)+1=k+2;rw[length_map,length_take,Nat.min_eq_left h]
variable{ys:List (Ex×Value)}
theorem afp{sum:t_}   (h:ys.map (·.2)=(gqk tb sum tw k).map (·.2)):∀x∈ys,x.2.oneCell'=true:=by intro x hx;have:x.2∈ys.map (·.2):=mem_map_of_mem hx;rw[h] at this;obtain⟨a,ha,e⟩:=List.mem_map.1 this;obtain⟨b,_,rfl⟩:=List.mem_map.1 ha;rw[<- e];rfl
structure GIn (w:rQ) (tb:uF) (GA:z_) (gn:Nat) (sum:t_) (tw:uF) (WA:z_) (wn:Nat) (CA:z_) (cols:List aV) (RA:z_) (rows:List aX):Prop where
 g:fT w tb GA gn
 wh:fT w tw WA wn
 gok:Tr.cH tb
 wok:Tr.cH tw
 gs:Tr.smalls tb
 ws:Tr.smalls tw
 nodes:2*Tr.aN tb+2*Tr.aN tw<=1048576
 sum:sum.size<=1048576
 env:xI w
 cr:RC w w.heap.size CA cols
 cl:cols.length<=140737488355328
 rr:RR w w.heap.size RA rows
 rn:rows.length<=140737488355328
 each:∀r∈rows,r.l.length<=140737488355328/\∀v∈r.l,v.Ok
section
variable {w w':rQ} {tb tw:uF} {GA WA CA RA:z_} {gn wn:Nat} {sum:t_} {cols:List aV} {rows:List aX}
theorem GIn.later (h:GIn w tb GA gn sum tw WA wn CA cols RA rows)(hb:aj w w'):GIn w' tb GA gn sum tw WA wn CA cols RA rows:=
 ⟨h.g.later hb,h.wh.later hb,h.gok,h.wok,h.gs,h.ws,h.nodes,h.sum,h.env.later hb,h.cr.later hb,h.cl,h.rr.later hb,h.rn,h.each⟩
theorem afq:aC.Ok/\0<=aC.k/\aC.k<=255:=by unfold Val.Ok aC;simp
theorem xi (tb:uF):(gq tb sum tw).items.map (·.1)=rU::tG sum::tb:=by
 have e:∀l:uF,(l.map λ t=>(t,ByteArray.empty)).map (·.1)=l:=λ l=>by
  induction l with
  | nil=>rfl
  | cons a l ih=>rw[map_cons,map_cons,ih]
 show rU::tG sum::List.map _ (List.map _ tb)=_;rw[e]
theorem GIn.ok (h:GIn w tb GA gn sum tw WA wn CA cols RA rows):(gq tb sum tw).Ok:=by
 have hl:=fQ tb;have hm:=fQ tw;have:=h.nodes;refine⟨?_,h.wok,h.gok,by show Tr.cH [];unfold Tr.cH;trivial,by show Tr.cH [];unfold Tr.cH;trivial,?_,by show tw.length<=_;omega,by show tb.length<=_;omega,Nat.zero_le _,Nat.zero_le _⟩
 ·rw[xi];simp only[Tr.cH,rU,tG,Tr.ok];have z:=afq;exact⟨⟨z.1,by simp,⟨by omega,by omega⟩,⟨by omega,by omega⟩,z.2,trivial⟩,⟨z.1,by simp,⟨by omega,by omega⟩,⟨by omega,by omega⟩,z.2,⟨z.1,by simp,⟨by omega,by omega⟩,⟨by omega,by omega⟩,z.2,trivial⟩,trivial⟩,h.gok⟩
 ·show((rU,ByteArray.empty)::(tG sum,ByteArray.empty)::tb.map λ t=>(t,ByteArray.empty)).length<=_;simp;omega
theorem akJ (h:GIn w tb GA gn sum tw WA wn CA cols RA rows):(gq [] sum tw).Ok:=GIn.ok (w:=w) (tb:=[]) (GA:=none) (gn:=0) ⟨⟨rfl,[],.inl rfl,by unfold Tr.aM;rfl⟩,h.wh,by unfold Tr.cH;trivial,h.wok,by unfold Tr.smalls;trivial,h.ws,by have:=h.nodes;simp only[Tr.aN];omega,h.sum,h.env,h.cr,h.cl,h.rr,h.rn,h.each⟩
theorem GIn.law {L:QL}(h:GIn w tb GA gn sum tw WA wn CA cols RA rows)(hq:oX w (gq tb sum tw) L)(hL:L.l.n=0):tU w (gq tb sum tw) L CA cols RA rows:=by
 refine⟨hq,h.ok,?_,?_,Nat.zero_le _,by omega,(λ n hn=>nomatch hn),h.env,h.cr,h.cl,h.rr,h.rn,h.each⟩
 ·unfold Qy.all;rw[xi];have e:Tr.smalls (rU::tG sum::tb):=by simp only[Tr.smalls,rU,tG,Tr.small];have z:ByteArray.empty.size<=1048576:=Nat.zero_le _;have z2:aC.s.size<=1048576:=Nat.zero_le _;exact⟨⟨z,z2,trivial⟩,⟨z,z2,⟨h.sum,z2,trivial⟩,trivial⟩,h.gs⟩
  have z:Tr.smalls []:=by unfold Tr.smalls;trivial
  exact iI (iI e (iI (iI h.ws h.gs) z)) z
 ·have:=h.nodes;rw[mC,xi];show Tr.aN (rU::tG sum::tb)+(Tr.aN tw+Tr.aN tb+Tr.aN [])+Tr.aN []<=_;unfold rU tG;simp only[Tr.aN,Tr.nodes];omega
end
abbrev ItL:=List (Ex×Value)
def zs0 (b1:Nat):ItL:=[(⟨21,aC,ByteArray.empty,0,none,0,0⟩,.string ByteArray.empty),(⟨23,aC,ByteArray.empty,0,some ⟨b1,0,none⟩,1,1⟩,.string ByteArray.empty)]
variable{W:rQ}{gi b1:Nat}
theorem aap(k:aB W gi 48 #[ag 21,ag 0,af 0,au,au,af 0,ay,au,ag 23,ag 0,af 0,au,au,af 0,aL b1 1 1,au]):RI W W.heap.size (some ⟨gi,0,none⟩) (zs0 b1):=by
 refine .inr ⟨gi,0,rfl,k.lt,λ i x hx=>?_⟩
 match i,hx with
 | 0,hx=>injection hx with hx;subst hx;exact⟨⟨k.cell 0,k.cell 1,k.cell 2,k.cell 3,k.cell 4,k.cell 5,k.cell 6⟩,k.cell 7⟩
 | 1,hx=>injection hx with hx;subst hx;exact⟨⟨k.cell 8,k.cell 9,k.cell 10,k.cell 11,k.cell 12,k.cell 13,k.cell 14⟩,k.cell 15⟩
theorem Um{sum:t_}(k:aB W b1 46 #[ag 2,ag 0,af 0,au,.string sum,af 0,ay]):Tr.aM W (Old W) [rU,tG sum] ((zs0 b1).map (·.1)):=by
 have z:Tr.aM W (Old W) [] []:=by unfold Tr.aM;rfl
 have hc:Tr.at_ W (Old W) rU ⟨21,aC,ByteArray.empty,0,none,0,0⟩:=by unfold rU Tr.at_;exact⟨rfl,rfl,rfl,rfl,rfl,[],.inl rfl,z⟩
 have hx:Tr.at_ W (Old W) (.mk 2 aC sum 0 []) ⟨2,aC,sum,0,none,0,0⟩:=by unfold Tr.at_;exact⟨rfl,rfl,rfl,rfl,rfl,[],.inl rfl,z⟩
 have hs:Tr.at_ W (Old W) (tG sum) ⟨23,aC,ByteArray.empty,0,some ⟨b1,0,none⟩,1,1⟩:=by
  unfold tG Tr.at_;refine⟨rfl,rfl,rfl,rfl,rfl,[⟨2,aC,sum,0,none,0,0⟩],.inr ⟨b1,0,rfl,k.lt,λ i x hx=>?_⟩,Tr.eG hx⟩
  match i,hx with
  | 0,hx=>injection hx with hx;subst hx;exact⟨k.cell 0,k.cell 1,k.cell 2,k.cell 3,k.cell 4,k.cell 5,k.cell 6⟩
 exact Tr.all_append (Tr.eG hc) (Tr.eG hs)
def gqa (gi:Nat)(WA:z_)(wn wc:Nat):QL:=⟨⟨some ⟨gi,0,none⟩,2,2⟩,⟨WA,wn,wc⟩,⟨none,0,0⟩,⟨none,0,0⟩,⟨none,0,0⟩,⟨none,0,0⟩⟩
def gql (A:z_)(n c:Nat)(WA:z_)(wn wc:Nat)(GA:z_)(gn gc:Nat):QL:=⟨⟨A,n,c⟩,⟨WA,wn,wc⟩,⟨GA,gn,gc⟩,⟨none,0,0⟩,⟨none,0,0⟩,⟨none,0,0⟩⟩
def g8V (bq:Nat)(A:z_)(n c B:Nat)(zs:ItL)(GA:z_)(gn gc j bg og:Nat)(y:Ex):Nat->rQ->Value->Prop
 | 0,_,v=>v=aw bq
 | 1,_,v=>v=.slice A n c
 | 2,w,v=>∃A2 c2,v=.slice A2 n c2/\JZ w B (.slice A2 n c2) zs
 | 3,_,v=>v=.slice GA gn gc
 | 4,_,v=>v=af j
 | 5,_,v=>v=bc bg (og+j*7)
 | 6,_,v=>v=.agg (az y)
 | 7,_,v=>v=.agg #[ag y.op,ag y.v.k,af y.v.n,.string y.v.s,.string y.name,af y.width,.slice y.A y.n y.c,au]
 | 8,w,v=>∃gB:Nat,v=aL gB 1 1/\aB w gB 48 #[ag y.op,ag y.v.k,af y.v.n,.string y.v.s,.string y.name,af y.width,.slice y.A y.n y.c,au]
 | _,_,_=>False
theorem XM (bq:Nat)(A:z_)(n c B:Nat)(zs:ItL)(GA:z_)(gn gc j bg og:Nat)(y:Ex):∀i w w' v,g8V bq A n c B zs GA gn gc j bg og y i w v->ai w w'->g8V bq A n c B zs GA gn gc j bg og y i w' v:=by
 intro i w w' v h hl
 match i with
 | 0 | 1 | 3 | 4 | 5 | 6 | 7=>exact h
 | 2=>obtain⟨A2,c2,h1,f0⟩:=h;exact⟨A2,c2,h1,f0.later hl⟩
 | 8=>exact ZfP
 | n+9=>exact h
theorem Ec (a b:Int):wrap64 (wrap64 a+b)=wrap64 (a+b):=by unfold wrap64;omega
theorem Hq (l:List aX)(f:aX->Int)(x:aX):dx (l.map f++ [x].map f)=dx (l.map f)+f x:=by
 induction l with
 | nil=>simp[dx]
 | cons a l ih=>rw[map_cons,cons_append];show f a+dx _=f a+dx _+f x;rw[ih];omega
variable{o:Nat}
theorem RV.ahi{b:Nat} {l:v_}(h:RV w B (some ⟨b,o,none⟩) l)(hl:2<=l.length)(hc:l.length<=c):RV w B (if c=2 then some ⟨b,o,none⟩else some ⟨b,o+6,none⟩) (l.drop 2):=by
 by_cases c2:c=2
 ·exact .inl (List.drop_eq_nil_iff.2 TD)
 rw[if_neg c2];rcases h with h |⟨b',o',e,h1,h2⟩
 ·subst h;simp at hl
 ·injection e with e;injection e with e1 e2;subst e1 e2;refine .inr ⟨b,o+6,rfl,h1,λ i x hx=>?_⟩;rw[getElem?_drop] at hx;have:=h2 _ _ hx;rwa [show o+(2+i)*3=o+6+i*3 by omega] at this
theorem akL{sum:t_}(h:Few (gq tb sum tw)):Few (gq [] sum tw):=by have hn:=h.nodes;rw[mC] at hn;refine⟨Nat.zero_le _,h.w,Nat.zero_le _,by show 2<=_;omega,Nat.zero_le _,?_,λ n hn=>by cases hn⟩;rw[mC,xi] at*;simp only[gq,Tr.aN,rU,tG,Tr.nodes,map_nil] at hn ⊢;omega
theorem zcK.KaA(h:p:=by have r0:ρ (.tmp 116)=.slice RA rows.length rc:=hr.1;exact Zb6):p:=h
theorem zcL.KaA(h:p:=by have r0:ρ (.tmp 114)=oC (gq [] sum tw) (gqa gi WA wn wc):=hr.1;have r1:ρ (.tmp 115)=.slice CA cols.length cc:=hr.2.1;have r2:σ 3=some (ρ (.tmp 117)):=hr.2.2.1;obtain⟨A,c,rs,e2,C4,hm⟩:=hG.own kx _ r2;rw[kx] at hG;have e1:=hc.func 11;refine bp (f:=11) (args:= #[oC (gq [] sum tw) (gqa gi WA wn wc),.slice CA cols.length cc,.slice A rs.length c]) (w':=w) (by simp[go_sem,e1,r0,r1,e2];done) ?_;refine(NI c (sW cc (K2.ae.later hG.low) HOA.ae tQ.ae ((HCR.ae.later hG.low).same C4 hm))).mono ?_;exact Zdm):p:=h
theorem zcM.KaA(h:p:=by have r0:σ 4=some (ρ (.tmp 118)):=hr.1;rw[kx] at hG;refine aq (v:=ρ (.tmp 118)) (w':=w) Tbm ?_;exact ZfY):p:=h
theorem zcN.KaA(h:p:=by have r0:σ 5=some (ρ (.tmp 113)):=hr.1;exact Zcr):p:=h
theorem zcO.KaA(h:p:=by have r0:σ 5=some (ρ (.tmp 113)):=hr.1;exact ZcI):p:=h
theorem zcP.KaA(h:p:=by exact Zdp):p:=h
theorem zcQ.KaA(h:p:=by have r0:σ 8=some (ρ (.tmp 17)):=hr.1;have r1:σ 6=some (ρ (.tmp 119)):=hr.2.1;exact ZaZ):p:=h
theorem zcR.KaA(h:p:=by have r0:ρ (.tmp 124)=.slice RA rows.length rc:=hr.1;exact Zb6):p:=h
theorem zcS.KaA(h:p:=by have r0:ρ (.tmp 122)=oC qq Lq:=hr.1;have r1:ρ (.tmp 123)=.slice CA cols.length cc:=hr.2.1;have r2:σ 3=some (ρ (.tmp 125)):=hr.2.2.1;obtain⟨A,c,rs,e2,C4,hm⟩:=hG.own kx _ r2;rw[kx] at hG;have e1:=hc.func 11;refine bp (f:=11) (args:= #[oC qq Lq,.slice CA cols.length cc,.slice A rs.length c]) (w':=w) (by simp[go_sem,e1,r0,r1,e2];done) ?_;refine(NI c (sW cc (HK.ae.later hG.low) je.ae MR.ae ((HCR.ae.later hG.low).same C4 hm))).mono ?_;exact Zdm):p:=h
theorem zcT.KaA(h:p:=by have r0:σ 4=some (ρ (.tmp 126)):=hr.1;rw[kx] at hG;refine aq (v:=ρ (.tmp 126)) (w':=w) Tbm ?_;exact ZfY):p:=h
theorem zcU.KaA(h:p:=by have r0:σ 5=some (ρ (.tmp 121)):=hr.1;exact Zcr):p:=h
theorem zcV.KaA(h:p:=by have r0:σ 5=some (ρ (.tmp 121)):=hr.1;exact ZcI):p:=h
theorem zcW.KaA(h:p:=by exact Zdp):p:=h
theorem zcX.KaA(h:p:=by have r0:σ 8=some (ρ (.tmp 19)):=hr.1;have r1:σ 6=some (ρ (.tmp 127)):=hr.2.1;exact ZaZ):p:=h
theorem zdw.KaI(h:p:=by
 have HWW:=aa hL;clear fI y2 q1 q3 q4 hc1 hL;go_wp2_with fail;go_roundw;case rel=>exact⟨k+1,hki,by go_num,ai.then cN HWW.ae⟩
 case measure=>exact ZaU):p:=h
theorem zdB.KaJ(h:p:=by simp only[fN,Uaa] at y0 y1 c2 y3 y4 y5 y6 x7;show(execOp ρ _).run Tryz.prog w=.ok (.value (oC (gq [] sum tw) (gqa gi WA wn wc))) w;simp[go_sem,r0,y0,y1,c2,y3,y4,y5,y6,x7,oC]):p:=h
theorem zdC.KaJ(h:p:=by simp only[fN,Uaa] at y0 y1 c2 y3 y4 y5 y6 x7;show(execOp ρ _).run Tryz.prog w=.ok (.value (oC qq Lq)) w;simp[go_sem,r0,y0,y1,c2,y3,y4,y5,y6,x7,oC]):p:=h
theorem zfC.Kbp(h:p:=by go_big_quiet_step ((go_at_call 14;exact aP (Nat.le_refl _) (hc1 _)));open zdw in exact ZbD):p:=h
theorem zgo.KbI(h:p:=by
 simp only[fN,gqa,gql,gq,Uaa] at y0 y1 c2 y3 y4 y5 y6 x7;have K3:=aa ((JQ.ae.later HB.ae).law HK.ae rfl);have hgr:=K3.ae.great cc rc;unfold oC gql at hgr;simp only[gq] at hgr;go_wp2_with fail;refine hgr.mono ?_;rintro e W2 ⟨b,rfl,b3,aZ⟩;have asi:=aa (show b=false->GOK (gq tb sum tw) cols rows from aZ);replace HB:=aa (ai.then HB.ae b3);replace HC:=aa (HC.ae.later b3);replace HK:=aa (HK.ae.later b3);replace K1:=aa (K1.ae.later b3);replace K2:=aa (K2.ae.later b3);replace K3:=aa (K3.ae.later b3);clear hgr b3 aZ y0 y1 c2 y3 y4 y5 y6 x7 t1 t2;cases b;case true=>exact ZaK
 have HG:=aa (asi.ae rfl);clear asi;by_cases h3:3 < gn
 ·have t1:decide ((3:Int)<(gn:Int))=true:=decide_eq_true TD;have t2:decide (3 < gn)=true:=decide_eq_true h3;exact ZaK
 have t3:decide ((3:Int)<(gn:Int))=false:=decide_eq_false TD;have t4:decide (3 < gn)=false:=decide_eq_false h3;by_cases h0:gn=0
 ·have t1:((gn:Int)==0)=true:=by simp[h0]
  have t2:(gn==0)=true:=by simp[h0]
  exact ZaK
 have t5:((gn:Int)==0)=false:=by simpa using h0
 have t6:(gn==0)=false:=by simpa using h0
 have t7:decide (gn=0)=false:=decide_eq_false h0;by_cases hs:100 < sum.size
 ·have t1:decide ((100:Int)<(sum.size:Int))=true:=decide_eq_true TD;have t2:decide (100 < sum.size)=true:=decide_eq_true hs;exact ZaK
 have t8:decide ((100:Int)<(sum.size:Int))=false:=decide_eq_false TD;have t9:decide (100 < sum.size)=false:=decide_eq_false hs;have HN3:=aa (show tb.length<=3/\tb≠ [] from⟨by have:=zv.ae;omega,λ e=>h0 (by rw[zv.ae,e];rfl)⟩);clear h3 h0 hs;go_wp2_with fail;clear t3 t4 t5 t6 t7 t8 t9;have HCR:=aa (K3.ae.cr_ HG.ae);have uT:rows.length<=100:=HG.ae.rn;have hl2:∀LT∈rows,LT.l.length<=30:=HG.ae.each;have yG:=aa hl2;clear hl2;go_loop [15] (λ iv=>∃i:Nat,i<=rows.length/\iv=af i) (λ iv=>rows.length - (intOf iv).toNat);case atStart=>exact⟨0,Nat.zero_le _,rfl⟩
 case round=>
  obtain⟨i,hi,rfl⟩:=hrel;by_cases hlt:i < rows.length
  ·obtain⟨b4,o4,hA4,l4,c4,r4⟩:=(HCR.ae.rr).at_ hlt;subst hA4;have Bq:=aa r4;have hl4:=yG.ae rows[i] (getElem_mem hlt);generalize rows[i]=r at*;clear r4;go_wp2_with fail;go_loop [16] (λ kv=>∃k:Nat,k<=r.l.length/\kv=af k) (λ kv=>r.l.length - (intOf kv).toNat);case atStart=>exact⟨0,Nat.zero_le _,rfl⟩
   case round=>
    obtain⟨k,HX,rfl⟩:=hrel;by_cases tH:k < r.l.length
    ·obtain⟨b5,o5,hA,l5,c5⟩:=Bq.ae.at_ tH;unfold dE at c5;obtain⟨_,c6,_⟩:=c5;rw[hA] at c4;by_cases h1:r.l[k].n < -1125899906842624
     ·have t1:=decide_eq_true h1;clear h1;exact ZaK
     by_cases h2:1125899906842624 < r.l[k].n
     ·have t1:=decide_eq_false h1;have t2:=decide_eq_true h2;clear h1 h2;exact ZaK
     have t1:=decide_eq_false h1;have t2:=decide_eq_false h2;clear h1 h2;go_wp2_with fail;go_round;case rel=>exact⟨k+1,tH,by go_num⟩
     case measure=>exact ZaU
    ·obtain rfl:k=r.l.length:=by omega
     go_wp2_with fail;go_round;case rel=>exact⟨i+1,hlt,by go_num⟩
     case measure=>exact ZaU
  ·obtain rfl:i=rows.length:=by omega
   clear hi hlt;go_upto_region 19 with fail;have HIW:=aa (JQ.ae.later HB.ae);have je:=aa HIW.ae.ok;have MR:=aa (K3.ae.few HG.ae);have tQ:=aa (akL MR.ae);have HOA:=aa (akJ HIW.ae);refine mU _ _ (take_append_drop 10 _).symm (rgU (gq [] sum tw) (gqa gi WA wn wc) CA cc cols RA rc rows) [3,4,5,6,7,8,9] (kO W2 (rows.map (·.l)) (jx (gq [] sum tw) cols (rows.map (·.l)))) (λ σ w h=>ql.later h (Below.refl _ _).drew) (ql.start _ _ _) WC WC WC WC ?_ ?_
   ·simp only[take_succ_cons,take_zero];refine⟨?_,ZcT,ZcU,?_,?_,?_,?_,?_,?_,?_,trivial⟩
    ·intro ρ w σ hc hG hr he hno;refine⟨rfl,?_⟩;unfold kO at hG;rw[if_neg V0];have r0:ρ (.tmp 12)=aw ba:=hr.1;have cN:aB w ba 27 (fN (gq [] sum tw) (gqa gi WA wn wc)):=(hG.low.block ba K1.ae.lt).trans K1.ae;open zdB in exact ZbE
    ·open zcK in exact Zba
    ·open zcL in exact Zba
    ·open zcM in exact Zba
    ·open zcN in exact Zba
    ·open zcO in exact Zba
    ·open zcP in exact Zba
    ·open zcQ in exact Zba
   ·intro σ w9a hM hG;simp only[Uab];intro a0 q0 a1 q1 a2 q2 a3 q3 a4 q4 a5 q5 a6 q6 eva q7 a8 q8;unfold kO at hG;replace q4:σ 4=some a4:=q4;replace q5:σ 5=some a5:=q5;replace q6:σ 6=some a6:=q6;replace q7:σ 7=some eva:=q7;replace q8:σ 8=some a8:=q8;obtain⟨v9,h9⟩:=Option.isSome_iff_exists.1 (hM 9 V0);rw[q4,q5,q6,q7,q8,h9] at hG;obtain⟨ga,csa,ev',e4,e5,e6,e7,e8,hg,HX,hv,cN⟩:=hG.fin;have Ka:=aa HX;have Va:=aa hv;have Ba:=aa cN;have Ga:=aa hg;clear q0 q1 q2 q3 q4 q5 q6 q7 q8 hG HX hv cN hg hM h9;subst e4 e5 e6 e7 e8;simp only[bA,Act.put,Uac];clear σ v9;replace HB:=aa (ai.then HB.ae Ba.ae);replace HC:=aa (HC.ae.later Ba.ae);replace HK:=aa (HK.ae.later Ba.ae);replace HCR:=aa (HCR.ae.later Ba.ae);clear HIW K3 K1 K2;obtain⟨qq,hqq⟩:∃q,q=gq tb sum tw:=⟨_,rfl⟩;obtain⟨Lq,hLq⟩:∃L,L=gql A (tb.length+2) c WA wn wc GA gn gc:=⟨_,rfl⟩;rw[<- hqq,<- hLq] at HC HK;rw[<- hqq] at je MR;have Ki:=aa hqq;clear hqq hLq;go_upto_region 20 with fail;refine mU _ _ (take_append_drop 10 _).symm (rgU qq Lq CA cc cols RA rc rows) [3,4,5,6,7,8,9] (kO w9a (rows.map (·.l)) (jx qq cols (rows.map (·.l)))) (λ σ w h=>ql.later h (Below.refl _ _).drew) (ql.start _ _ _) WC WC WC WC ?_ ?_
    ·simp only[take_succ_cons,take_zero];refine⟨?_,ZcT,ZcU,?_,?_,?_,?_,?_,?_,?_,trivial⟩
     ·intro ρ w σ hc hG hr he hno;refine⟨rfl,?_⟩;unfold kO at hG;rw[if_neg V0];have r0:ρ (.tmp 13)=aw bq:=hr.1;have cN:aB w bq 27 (fN qq Lq):=(hG.low.block bq HC.ae.lt).trans HC.ae;open zdC in exact ZbE
     ·open zcR in exact Zba
     ·open zcS in exact Zba
     ·open zcT in exact Zba
     ·open zcU in exact Zba
     ·open zcV in exact Zba
     ·open zcW in exact Zba
     ·open zcX in exact Zba
    ·intro σ w9b hM hG;simp only[Uab];intro a0 q0 a1 q1 a2 q2 a3 q3 a4 q4 a5 q5 a6 q6 evb q7 a8 q8;unfold kO at hG;replace q4:σ 4=some a4:=q4;replace q5:σ 5=some a5:=q5;replace q6:σ 6=some a6:=q6;replace q7:σ 7=some evb:=q7;replace q8:σ 8=some a8:=q8;obtain⟨v9,h9⟩:=Option.isSome_iff_exists.1 (hM 9 V0);rw[q4,q5,q6,q7,q8,h9] at hG;obtain⟨gb,csb,ev',e4,e5,e6,e7,e8,hg,HX,hv,cN⟩:=hG.fin;have Kb:=aa HX;have Vb:=aa hv;have Bb:=aa cN;have Gb:=aa hg;clear q0 q1 q2 q3 q4 q5 q6 q7 q8 hG HX hv cN hg hM h9;subst e4 e5 e6 e7 e8;simp only[bA,Act.put,Uac];clear σ v9;replace HB:=aa (ai.then HB.ae Bb.ae);replace Ka:=aa (Ka.ae.later Bb.ae);replace Va:=aa (Va.ae.later Bb.ae);rw[Ki.ae] at Vb;clear HC HK HCR Ki
     cases Kn:jx (gq [] sum tw) cols (rows.map (·.l))with
     | error er=>
       rw[Kn] at Va;obtain⟨hne,rfl,rfl⟩:=Va.ae.arM;have t1:(er != 0)=true:=by simp[hne]
       clear Va Kn hne;exact ZaK
     | ok xa=>
       obtain⟨hda,la⟩:=xa;rw[Kn] at Va
       cases JI:jx (gq tb sum tw) cols (rows.map (·.l))with
       | error er=>
         rw[JI] at Vb;obtain⟨hne,rfl,rfl⟩:=Vb.ae.arM;obtain⟨HA,hc,OA,oc,asj,rfl,rfl,_⟩:=Va.ae.ok_;have t1:(er != 0)=true:=by simp[hne]
         clear Va Vb Kn JI hne;exact ZaK
       | ok xb=>
         obtain⟨hdb,lb⟩:=xb;rw[JI] at Vb;have akM:=Sd HN3.ae.1 HN3.ae.2 Kn JI;obtain⟨HA,hc,OA,oc,asj,rfl,rfl,_,rra,zF⟩:=Va.ae.ok_;obtain⟨HA',hc',OB,ob,fp,rfl,rfl,_,rrb,ze,abN⟩:=Vb.ae.ok2;have asl:=aa abN;clear abN;obtain⟨x,y,hab,hx,hx0,Ae,hy,XR,Nm,hz⟩:=akM.two;have HS:=aa akM;have aaq:=aaj JI (by have:=HG.ae.i;omega) (by have:=HG.ae.cl;omega) (λ LT hr=>by
          obtain⟨x,hx,rfl⟩:=List.mem_map.1 hr
          have:=HG.ae.each x hx
          omega)
         rw[length_map] at aaq
         have UJ:fp.length<=101:=by
          have:fp.length=lb.length:=by rw[<- ze,length_map]
          omega
         have NZ:=aa (show∀LT∈fp,LT.l.length<=1000 from λ LT hr=>by
          have:=aaq.2.2 LT.l (by rw[<- ze];exact List.mem_map.2 ⟨LT,hr,rfl⟩)
          omega)
         subst hab ze;obtain⟨ra,rfl⟩:=List.length_eq_one_iff.1 (show asj.length=1 by have:=congrArg List.length zF;simpa using this);have akN:ra.l=[x,y]:=by injection zF
         obtain⟨ba1,oa1,hOA,la1,ca1,rva⟩:=rra.at_ (k:=0) Taa;have rva:RV w9b w9b.heap.size ra.A ra.l:=rva;rw[akN] at rva;obtain⟨bv,ov,hAv,lv,cv0⟩:=rva.at_ (k:=0) Taa;obtain⟨bv',ov',afr,_,cv1⟩:=rva.at_ (k:=1) Taa;rw[hAv] at afr;injection afr with afr;injection afr with e1 e2;subst e1 e2;have HAV:=aa hAv;have axW:=aa (show ra.l.length=2 by rw[akN];rfl);have CA1:=aa ca1;have CV0:=aa cv0;have CV1:=aa cv1;have RRB:=aa rrb;have u1:=Ka.ae.cell 1;simp only[Uaa] at u1;rw[hOA] at u1;have HX0:=aa hx;have Ej:=aa (show 0<=x.n/\x.n<=100 by rw[length_map] at Ae;omega);have HY0:=aa hy;have HY1:=aa (And.intro XR Nm);have HZ:=aa hz;have KA1:=aa u1;clear akM aaq rra rva zF hOA hAv hx hx0 Ae hy XR Nm hz rrb ca1 cv0 cv1 Va Vb Kn JI akN;go_wp2_with fail;clear u1;go_loopw [21,22,23,24] (λ cv tv sv iv wr=>∃(i:Nat) (c t:Int) (s:Bool),i<=fp.length/\cv=af c/\tv=af t/\sv=.bool s/\iv=af i/\c=wrap64 (dx ((fp.take i).map λ LT=>(LT.l.getD 0 aC).n))/\t=wrap64 (dx ((fp.take i).map λ LT=>(LT.l.getD 1 aC).n))/\s=((fp.take i).any λ LT=>(LT.l.getD 1 aC).k==2)/\aj w9b wr) (λ _ _ _ iv _=>fp.length - (intOf iv).toNat);case atStart=>exact⟨0,0,0,false,Nat.zero_le _,rfl,rfl,rfl,rfl,by unfold wrap64;simp[dx],by unfold wrap64;simp[dx],by simp,Below.refl _ _⟩
         case round=>
          obtain⟨i,c,t,s,hi,rfl,rfl,rfl,rfl,hc,ht,hs,cN⟩:=hrel;have KK:=aa hc;have HT:=aa ht;have HSM:=aa hs;have iz:=aa cN;have kb:=Kb.ae.later cN;have v1:=kb.cell 1;simp only[Uaa] at v1;have vbl:=kb.lt;clear hc ht hs;by_cases hlt:i < fp.length
          ·obtain⟨Pd,o1,Kg,l1,c1,r1⟩:=(RRB.ae.later cN).at_ hlt;have C9:=HS.ae.long fp[i].l (mem_map_of_mem (getElem_mem hlt));obtain⟨b3,o2,vI,l2,p0⟩:=r1.at_ (k:=0) TD;obtain⟨b2',o2',afs,_,p1⟩:=r1.at_ (k:=1) TD;rw[vI] at afs;injection afs with afs;injection afs with e1 e2;subst e1 e2;unfold dE at p0 p1;obtain⟨_,n0,_⟩:=p0;obtain⟨k1,n1,_⟩:=p1;have mW:=aa (show fp.take (i+1)=fp.take i++ [fp[i]] by rw[take_add_one,getElem?_eq_getElem hlt];rfl);have VQ:=aa (show fp[i].l.getD 0 aC=fp[i].l[0] from by rw[getD_eq_getElem?_getD,getElem?_eq_getElem TD];rfl);have nj:=aa (show fp[i].l.getD 1 aC=fp[i].l[1] from by rw[getD_eq_getElem?_getD,getElem?_eq_getElem TD];rfl);have QU:=aa r1;have XU:=aa vI;have C1:=aa c1;rw[Kg] at v1;rw[vI] at c1;clear r1 Kg vI;go_upto_region 31 with fail;obtain⟨c9,hc9⟩:∃z,z=wrap64 (c+fp[i].l[0].n):=⟨_,rfl⟩;obtain⟨t9,ht9⟩:∃z,z=wrap64 (t+fp[i].l[1].n):=⟨_,rfl⟩;rw[<- hc9,<- ht9];have HC9:=aa (show c9=wrap64 (dx ((fp.take (i+1)).map λ LT=>(LT.l.getD 0 aC).n)) by rw[hc9,KK.ae,mW.ae,map_append,Hq,VQ.ae,Ec]);have HT9:=aa (show t9=wrap64 (dx ((fp.take (i+1)).map λ LT=>(LT.l.getD 1 aC).n)) by rw[ht9,HT.ae,mW.ae,map_append,Hq,nj.ae,Ec]);have HS9:=aa (show(s || fp[i].l[1].k==2)=(fp.take (i+1)).any λ LT=>(LT.l.getD 1 aC).k==2 by rw[HSM.ae,mW.ae,any_append,any_cons,any_nil,Bool.or_false,nj.ae]);clear hc9 ht9 KK HT HSM VQ nj mW;go_cut [23] (λ v wx=>v=.bool (s || fp[i].l[1].k==2)/\wx=wr)
           case first=>
            cases s
            ·go_wp2_with fail;go_meet;exact⟨by simp,rfl⟩
            ·exact Zgf
           case rest=>
            obtain⟨rfl,hwc⟩:=hcut;rw[hwc];clear hwc v1 n0 k1 n1 c1 QU XU C1 kb vbl cN;generalize (s || fp[i].l[1].k==2)=s9 at*;go_upto_region 33 with fail;generalize wr=wo at*;go_loopw [25] (λ kv wr=>∃k:Nat,k<=i/\kv=af k/\aj w9b wr) (λ kv _=>i - (intOf kv).toNat);case atStart=>exact⟨0,Nat.zero_le _,rfl,iz.ae⟩
            case round=>
             clear iz;obtain⟨k,HX,rfl,cN⟩:=hrel;by_cases hki:k < i
             ·have ua:k < fp.length:=by omega
              have hlk:=HS.ae.long fp[k].l (mem_map_of_mem (getElem_mem ua));have kb:=Kb.ae.later cN;have v1:=kb.cell 1;simp only[Uaa] at v1;have vbl:=kb.lt;obtain⟨Pd,o1,Kg,l1,c1,r1⟩:=(RRB.ae.later cN).at_ hlt;obtain⟨b1',o1',aft,l1',c1',r1'⟩:=(RRB.ae.later cN).at_ ua;rw[Kg] at aft;injection aft with aft;injection aft with e1 e2;subst e1 e2;obtain⟨bi,oi,hAi,_,_⟩:=r1.at_ (k:=0) TD;obtain⟨bk,ok,hAk,_,_⟩:=r1'.at_ (k:=0) TD;have hne:=List.pairwise_iff_getElem.1 HS.ae.apart k i (by rw[length_map];exact ua) (by rw[length_map];exact hlt) hki;rw[getElem_map,getElem_map] at hne;have N9:bR (fp[i].l.drop 2) (fp[k].l.drop 2)≠0:=λ e=>hne (by have:=sw (fp[i].l.drop 2) (fp[k].l.drop 2);omega)
              have t1:(bR (fp[i].l.drop 2) (fp[k].l.drop 2)==0)=false:=by simpa using N9
              rw[Kg] at v1;rw[hAi] at c1 r1;rw[hAk] at c1' r1';have q1:=λ x:Ext wr.heap.size wr=>(x.h.cell (p:=⟨gb,1,none⟩) vbl).trans v1
              have q3:=λ x:Ext wr.heap.size wr=>(x.h.cell (p:=⟨Pd,o1+i,none⟩) l1).trans c1
              have q4:=λ x:Ext wr.heap.size wr=>(x.h.cell (p:=⟨Pd,o1+k,none⟩) l1).trans c1'
              have hc1:=λ x:Ext wr.heap.size wr=>BH (if fp[i].c=2 then some ⟨bi,oi,none⟩else some ⟨bi,oi+6,none⟩) (fp[i].c - 2) (fp[i].l.drop 2) (if fp[k].c=2 then some ⟨bk,ok,none⟩else some ⟨bk,ok+6,none⟩) (fp[k].c - 2) (fp[k].l.drop 2) x.w ((r1.later x.h).ahi C9 (asl.ae _ (getElem_mem hlt))) ((r1'.later x.h).ahi hlk (asl.ae _ (getElem_mem ua))) (by have:=NZ.ae _ (getElem_mem hlt);rw[length_drop];omega) (by have:=NZ.ae _ (getElem_mem ua);rw[length_drop];omega)
              simp only[length_drop] at hc1;clear v1 c1 c1' l1' r1 r1' Kg hAi hAk hne N9 kb;go_upto_region 35 with fail;refine aW 13 wr.heap.size wr (Below.refl _ _) WC WC WC WC ?_;open zfC in exact ZdF
             ·obtain rfl:k=i:=by omega
              have Wt:=aa cN;clear hki HX cN;go_wp2_with fail;go_roundw;case rel=>exact⟨k+1,c9,t9,s9,hlt,rfl,rfl,rfl,by go_num,HC9.ae,HT9.ae,HS9.ae,Wt.ae⟩
              case measure=>exact ZaU
          ·obtain rfl:i=fp.length:=by omega
           rw[take_length] at KK HT HSM;have hx:=HX0.ae;have hy:=HY0.ae;have hz:=HZ.ae;rw[map_map] at hx hy;rw[any_map] at hz;have NV:c=x.n:=by have e:dx (fp.map λ LT=>(LT.l.getD 0 aC).n)=x.n:=hx;rw[KK.ae,e];have:=Ej.ae;unfold wrap64;omega
           have hty:t=y.n:=by have e:dx (fp.map λ LT=>(LT.l.getD 1 aC).n)% 18446744073709551616=y.n % 18446744073709551616:=hy;have:=HY1.ae;rw[HT.ae];unfold wrap64;omega
           have hsz:s=(y.k==2):=by rw[HSM.ae];exact hz
           subst NV hty hsz;replace HB:=aa (ai.then HB.ae iz.ae);have u1:=(iz.ae.cell (p:=⟨ga,1,none⟩) Ka.ae.lt).trans KA1.ae;have u2:wr.cell? ⟨ba1,oa1,none⟩=some (.slice (some ⟨bv,ov,none⟩) 2 ra.c):=by have:=(iz.ae.cell (p:=⟨ba1,oa1+0,none⟩) la1).trans CA1.ae;simpa [HAV.ae,axW.ae] using this
           have hv0:dE w9b bv (ov+0*3) x:=CV0.ae;have EW:dE w9b bv (ov+1*3) y:=CV1.ae;unfold dE at hv0 EW;have n0:=(iz.ae.cell (p:=⟨bv,ov+0*3+1,none⟩) lv).trans hv0.2.1;have k1:=(iz.ae.cell (p:=⟨bv,ov+1*3,none⟩) lv).trans EW.1;have n1:=(iz.ae.cell (p:=⟨bv,ov+1*3+1,none⟩) lv).trans EW.2.1;have ual:=Nat.lt_of_lt_of_le Ka.ae.lt iz.ae.size;have la2:=Nat.lt_of_lt_of_le la1 iz.ae.size;have lv2:=Nat.lt_of_lt_of_le lv iz.ae.size;clear hv0 EW KK HT HSM kb hi hlt hx hy hz;exact ZaK):p:=h
theorem qgroups_any (tb:uF)(GA:z_)(gn gc:Nat)(sum:t_)(tw:uF)(WA:z_)(wn wc:Nat)(CA:z_)(cc:Nat)(cols:List aV)(RA:z_)(rc:Nat)(rows:List aX)(w:rQ)(h:GIn w tb GA gn sum tw WA wn CA cols RA rows):
  ar 5 #[.slice GA gn gc,.string sum,.slice WA wn wc,.slice CA cols.length cc,.slice RA rows.length rc] w λ e w'=>e=.returned (.bool true)/\aj w w':=by
 have mixed:Tryz.prog.follows .mixedOrders=true:=by kernel_rfl
 have JQ:=aa h;clear h;go_enter Tryz.func5,Tryz.ntmps5;go_upto_region 5 with fail;obtain⟨Pd,hb1⟩:∃b,b=w.heap.size:=⟨_,rfl⟩;obtain⟨gs,ou⟩:∃b,b=w.heap.size+1:=⟨_,rfl⟩;obtain⟨gi,YM⟩:∃b,b=w.heap.size+1+1:=⟨_,rfl⟩;obtain⟨ba,hba⟩:∃b,b=w.heap.size+1+1+1:=⟨_,rfl⟩;obtain⟨bq,hbq⟩:∃b,b=w.heap.size+1+1+1+1:=⟨_,rfl⟩;rw[<- hbq,<- hba,<- YM,<- ou,<- hb1];obtain⟨W1,hW1⟩:∃W,W=w.alloc (.cells #[ag 2,ag 0,af 0,au,.string sum,af 0,ay] 46):=⟨_,rfl⟩;have s1:W1.heap.size=w.heap.size+1:=by rw[hW1,World.size_alloc]
 have l1:aj w W1:=by rw[hW1];exact ah _ _
 have k1:aB W1 Pd 46 #[ag 2,ag 0,af 0,au,.string sum,af 0,ay]:=by rw[hW1,show Pd=w.heap.size by omega];exact aB.new _ _ _
 rw[<- hW1];obtain⟨W2,hW2⟩:∃W,W=W1.alloc (.cells #[ag 23,ag 0,af 0,au,au,af 0,aL Pd 1 1] 46):=⟨_,rfl⟩;have s2:W2.heap.size=W1.heap.size+1:=by rw[hW2,World.size_alloc]
 have l2:aj W1 W2:=by rw[hW2];exact ah _ _
 have k2:aB W2 gs 46 #[ag 23,ag 0,af 0,au,au,af 0,aL Pd 1 1]:=by rw[hW2,show gs=W1.heap.size by omega];exact aB.new _ _ _
 rw[<- hW2];obtain⟨W3,hW3⟩:∃W,W=W2.alloc (.cells #[ag 21,ag 0,af 0,au,au,af 0,ay,au,ag 23,ag 0,af 0,au,au,af 0,aL Pd 1 1,au] 48):=⟨_,rfl⟩;have s3:W3.heap.size=W2.heap.size+1:=by rw[hW3,World.size_alloc]
 have l3:aj W2 W3:=by rw[hW3];exact ah _ _
 have k3:aB W3 gi 48 #[ag 21,ag 0,af 0,au,au,af 0,ay,au,ag 23,ag 0,af 0,au,au,af 0,aL Pd 1 1,au]:=by rw[hW3,show gi=W2.heap.size by omega];exact aB.new _ _ _
 rw[<- hW3];obtain⟨W4,hW4⟩:∃W,W=W3.alloc (.cells #[aL gi 2 2,au,.bool false,.slice WA wn wc,ay,ay,ay,ay] 27):=⟨_,rfl⟩;have s4:W4.heap.size=W3.heap.size+1:=by rw[hW4,World.size_alloc]
 have l4:aj W3 W4:=by rw[hW4];exact ah _ _
 have k4:aB W4 ba 27 #[aL gi 2 2,au,.bool false,.slice WA wn wc,ay,ay,ay,ay]:=by rw[hW4,show ba=W3.heap.size by omega];exact aB.new _ _ _
 rw[<- hW4];obtain⟨W5,hW5⟩:∃W,W=W4.alloc (.cells #[aL gi 2 2,au,.bool false,.slice WA wn wc,.slice GA gn gc,ay,ay,ay] 27):=⟨_,rfl⟩;have s5:W5.heap.size=W4.heap.size+1:=by rw[hW5,World.size_alloc]
 have l5:aj W4 W5:=by rw[hW5];exact ah _ _
 have k5:aB W5 bq 27 #[aL gi 2 2,au,.bool false,.slice WA wn wc,.slice GA gn gc,ay,ay,ay]:=by rw[hW5,show bq=W4.heap.size by omega];exact aB.new _ _ _
 rw[<- hW5];have QV:=aa (ai.then (ai.then (ai.then l1 l2) l3) l4);have W4B:=aa (show bq=W4.heap.size by omega);have Gk:=aa (show w.heap.size<=bq by omega);have hab:ba≠bq:=by omega
 have HW:=aa (show Below bq W4 W5 from W4B.ae▸l5);have asa:=aa (show aB W4 ba 27 (fN (gq [] sum tw) (gqa gi WA wn wc))from k4);have HC:=aa (show aB W5 bq 27 (fN (gq tb sum tw) (gql (some ⟨gi,0,none⟩) (0+2) 2 WA wn wc GA gn gc))from k5);have HIT:=aa (aap ((k3.later l4).later l5));have HIA:=aa (show Tr.aM W4 (Old W4) ((gqk tb sum tw 0).map (·.1)) ((zs0 Pd).map (·.1))from Um (((k1.later l2).later l3).later l4));have asb:=aa (show oX W4 (gq [] sum tw) (gqa gi WA wn wc)from⟨⟨rfl,zs0 Pd,aap (k3.later l4),rfl,Um (((k1.later l2).later l3).later l4)⟩,JQ.ae.wh.later QV.ae,⟨rfl,[],.inl rfl,by show Tr.aM _ _ [] [];unfold Tr.aM;rfl⟩,⟨rfl,[],.inl rfl,by show Tr.aM _ _ [] [];unfold Tr.aM;rfl⟩,⟨rfl,[],.inl rfl,rfl,by show Tr.aM _ _ [] [];unfold Tr.aM;rfl⟩,rfl,.inl rfl⟩);clear s1 l1 k1 hW1 s2 l2 k2 hW2 s3 l3 k3 hW3 s4 l4 k4 hW4 s5 l5 k5 hW5 hb1 ou YM hba hbq;have oD:=aa (show tb.length<=1048576 by have:=fQ tb;have:=JQ.ae.nodes;omega);have zv:=aa JQ.ae.g.n;obtain⟨yb,Oa,JI,hab⟩:=RY JQ.ae.g;have HRB:=aa JI;have HAB:=aa hab;have HNY:=aa Oa;clear Oa JI hab;go_upto_region 6 with fail;go_loopw [14] (λ iv wr=>∃(j:Nat) (A:z_) (c:Nat) (zs:ItL),j<=tb.length/\iv=af j/\Below bq W4 wr/\aB wr bq 27 (fN (gq tb sum tw) (gql A (j+2) c WA wn wc GA gn gc))/\RI wr wr.heap.size A zs/\zs.map (·.2)=(gqk tb sum tw j).map (·.2)/\Tr.aM W4 (Old W4) ((gqk tb sum tw j).map (·.1)) (zs.map (·.1))) (λ iv _=>tb.length - (intOf iv).toNat);case atStart=>exact⟨0,_,_,_,Nat.zero_le _,rfl,HW.ae,HC.ae,HIT.ae,rfl,HIA.ae⟩
 case round=>
  clear HW HC HIT HIA;obtain⟨j,A,c,zs,hj,rfl,hw,hkq,hzr,hzv,hza⟩:=hrel;have HW:=aa hw;have HC:=aa hkq;have HZR:=aa hzr;have HZV:=aa hzv;have Yg:=aa hza;have HB:=aa (QV.ae.trans (hw.mono Gk.ae));have hzl:zs.length=j+2:=by have:=congrArg List.length hzv;rw[length_map,length_map,afo _ _ _ hj] at this;exact this
  have mr:=aa hzl;clear hw hkq hzr hzv hza hzl;by_cases hlt:j < tb.length
  ·have xt:j < gn:=by have:=zv.ae;omega
   have t1:decide ((j:Int)<(gn:Int))=true:=decide_eq_true TD;obtain⟨y,XR,hyb⟩:=HAB.ae.get (getElem?_eq_getElem hlt);obtain⟨hjy,Nm⟩:=List.getElem?_eq_some_iff.1 XR;obtain⟨bg,og,NE,hbl,hex⟩:=HRB.ae.at_ hjy;rw[Nm] at hex;subst NE;have HEX:=aa (λ(NO:rQ) (hl:aj wr NO)=>hex.keep (w':=NO) λ o=>(HB.ae.trans (hl.mono HB.ae.size)).cell (p:=⟨bg,o,none⟩) hbl);have Yr:=aa hyb;have HJN:=aa (show j<=1048576 by have:=oD.ae;omega);have Lw:=aa xt;clear hex hyb XR Nm hjy;go_upto_region 8 with fail;clear t1;refine bz 9 (g8V bq A (j+2) c wr.heap.size zs (some ⟨bg,og,none⟩) gn gc j bg og y) (XM _ _ _ _ _ _ _ _ _ _ _ _ _) WC WC WC ?_ ?_
   ·simp only[take_succ_cons,take_zero];refine⟨?_,?_,?_,?_,?_,?_,?_,?_,?_,trivial⟩
    ·intro ρ NO hc LE hr;have h0:ρ (.tmp 13)=aw bq:=hr.1;exact ZeB
    ·intro ρ NO hc LE hr;have h0:ρ (.tmp 46)=aw bq:=hr.1;have cc:=(HC.ae.later LE).cell 0;simp only[fN,gql,getElem?_toArray,getElem?_cons_zero] at cc;exact aq (w':=NO) (by simp[go_sem,h0,cc];done) ⟨ai.refl _,rfl⟩
    ·intro ρ NO hc LE hr;have h0:ρ (.tmp 47)=.slice A (j+2) c:=hr.1;obtain⟨v2,w4,k1,k2,k3⟩:=XL (c:=c) (HZR.ae.later LE) (afp HZV.ae) TaL;obtain⟨A2,Ly,e2,_⟩:=Sg k2;subst e2;rw[mr.ae] at k1 k2;refine aq (v:=.slice A2 (j+2) Ly) (w':=w4) (by simp only[execOp,resolve,invoke,builtin,Sem.run_bind,Sem.run_pure,Result.andThen_ok,map_toArray,map_cons,map_nil,h0,hc.const,k1]) ⟨k3,A2,Ly,rfl,k2.down LE.size⟩
    ·intro ρ NO hc LE hr;have h0:ρ (.tmp 0)=.slice (some ⟨bg,og,none⟩) gn gc:=hr.1;exact ZeB
    ·intro ρ NO hc LE hr;have h0:ρ (.tmp 14)=af j:=hr.1;exact ZeB
    ·intro ρ NO hc LE hr;have h0:ρ (.tmp 49)=.slice (some ⟨bg,og,none⟩) gn gc:=hr.1;have h1:ρ (.tmp 50)=af j:=hr.2.1;have hx:=Lw.ae;exact aq (w':=NO) (by simp[go_sem,hc.const,h0,h1,hx];done) ⟨ai.refl _,rfl⟩
    ·intro ρ NO hc LE hr;have h0:ρ (.tmp 51)=bc bg (og+j*7):=hr.1;have k9:=HEX.ae NO LE;unfold cg at k9;have ce0:=k9.1;have ce1:=k9.2.1;have ce2:=k9.2.2.1;have ce3:=k9.2.2.2.1;have ce4:=k9.2.2.2.2.1;have ce5:=k9.2.2.2.2.2.1;have ce6:=k9.2.2.2.2.2.2;exact aq (w':=NO) (by simp[go_sem,h0,ce0,ce1,ce2,ce3,ce4,ce5,ce6];done) ⟨ai.refl _,rfl⟩
    ·intro ρ NO hc LE hr;have h0:ρ (.tmp 52)=.agg (az y):=hr.1;exact aq (w':=NO) Tam ⟨ai.refl _,rfl⟩
    ·intro ρ NO hc LE hr;have h0:ρ (.tmp 53)=.agg #[ag y.op,ag y.v.k,af y.v.n,.string y.v.s,.string y.name,af y.width,.slice y.A y.n y.c,au]:=hr.1;exact aq (v:=aL NO.heap.size 1 1) (w':=NO.alloc (.cells #[ag y.op,ag y.v.k,af y.v.n,.string y.v.s,.string y.name,af y.width,.slice y.A y.n y.c,au] 48)) Tam ⟨ah _ _,_,rfl,aB.new _ _ _⟩
   intro W2 LE;simp only[Uab];rintro _ rfl _ rfl a2 ⟨axQ,axR,rfl,ase⟩ _ rfl _ rfl _ rfl _ rfl _ rfl a8 ⟨axS,rfl,asf⟩;simp only[bA,Act.put,Uac];have yG:=aa LE;have OWN:=aa (show aH qm 48 8 W2 wr.heap.size (.slice axQ (j+2) axR) zs from ase);have K8:=aa asf;have axT:=aa (HC.ae.later LE);have hj9:=HJN.ae;clear LE ase asf;go_wp2_with (first
    |(at_builtin
      refine aS (f:=qm) rfl (.tmp 48) (.tmp 54) 22 rfl _ 104 Tryz.underlying22 NQ rfl TD (y,au) rfl (by simp[qm,bD,Value.oneCell']) rfl OWN.ae axS rfl K8.ae TaL TaL yG.ae.size ?_
      intro v5 w5 o5 g5
      obtain⟨A5,c5,e5,_⟩:=Sg o5
      have hl5:(zs++ [(y,Value.string ⟨#[]⟩)]).length=j+3:=by rw[length_append,mr.ae];rfl
      rw[hl5] at e5
      subst e5
      have KQ5:=aa (axT.ae.jr OWN.ae V0 g5)
      have B5:=aa (bj OWN.ae g5 yG.ae.size)
      have O5:=aa o5
      have y5:=KQ5.ae.cell 0
      have f5:=KQ5.ae.frozen 0
      have l5:=KQ5.ae.lt
      clear o5 g5 hl5))
   go_roundw
   case rel=>
    have hbq:=HC.ae.lt;have o6:aH qm 48 8 (w5.setCell ⟨bq,0,none⟩ (.slice A5 (j+3) c5)) wr.heap.size (.slice A5 (j+3) c5) (zs++ [(y,Value.string ⟨#[]⟩)]):=O5.ae.keep λ q hq=>Below.heap_setCell _ _ _ _ (λ e=>O5.ae.other KQ5.ae V0 (hq.trans (congrArg some e)))
    obtain⟨A6,c6,e6,r6⟩:=Sg o6;injection e6 with e6 _ _;subst e6;refine⟨j+1,A5,c5,zs++ [(y,Value.string ⟨#[]⟩)],hlt,by go_num,?_,KQ5.ae.aT 0 _,r6,?_,?_⟩
    ·exact((HW.ae.trans (yG.ae.mono (Nat.le_of_lt hbq))).trans (B5.ae.mono (Nat.le_of_lt hbq))).setCell (Nat.le_refl _) _
    ·rw[NR hlt,map_append,map_append,HZV.ae];rfl
    ·rw[NR hlt,map_append,map_append];exact Tr.all_append Yg.ae (Tr.eG (Yr.ae.later QV.ae))
   case measure=>exact ZaU
  ·obtain rfl:j=tb.length:=by omega
   have e9:gqk tb sum tw tb.length=(gq tb sum tw).items.map λ x=>(x.1,.string x.2):=by unfold gqk;rw[take_length]
   rw[e9] at HZV Yg;have HK:=aa (show oX wr (gq tb sum tw) (gql A (tb.length+2) c WA wn wc GA gn gc)from⟨⟨by rw[length_map];show tb.length+2=(tb.map λ t=>(t,ByteArray.empty)).length+1+1;rw[length_map],zs,HZR.ae,HZV.ae,Yg.ae.later (by have h:=HW.ae;rw[W4B.ae] at h;exact h)⟩,JQ.ae.wh.later HB.ae,JQ.ae.g.later HB.ae,⟨rfl,[],.inl rfl,by show Tr.aM _ _ [] [];unfold Tr.aM;rfl⟩,⟨rfl,[],.inl rfl,rfl,by show Tr.aM _ _ [] [];unfold Tr.aM;rfl⟩,rfl,.inl rfl⟩);have t1:decide ((tb.length:Int)<(gn:Int))=false:=decide_eq_false (by have:=zv.ae;omega);have t2:decide (tb.length < gn)=false:=decide_eq_false (by have:=zv.ae;omega);have K1:=aa (asa.ae.later (W4B.ae▸HW.ae));have K2:=aa (asb.ae.later (W4B.ae▸HW.ae));clear e9 HZR HZV Yg mr HRB HAB HNY hlt hj asa asb HW;have y0:=HC.ae.cell 0;open zgo in exact Zel
def laidL:List (String×DataW Unit):=Rows.queryLimitRow.laid
noncomputable def laidW (os:Os):rQ:=World.laidAll Tryz.prog os laidL
theorem laid_os (os:Os):(laidW os).os=os:=World.laidAll_os _ _ _
theorem laid_met (os:Os)(args:x_):laidMet Tryz.prog laidL ((laidW os).forCall (λ _ _=>0) ⟨#[],args,[]⟩).memory:=
 laidMet_laidAll _ WC WC
theorem env_of(h:laidMetH Tryz.prog laidL W):xI W:=by rw[MakeChecks.laidMetH_plain _ _ _ WC] at h;have h3:laidMet Tryz.prog [("internal/strconv.uint64pow10",Lib.tabData .u64 Lib.pow10Tab)] W:=h.tail.tail;exact Lib.tabIs_of_head (g:=0) (t:=261) (e:=195) (n:=20) WC WC Tryz.underlying261 Tryz.underlying195 WC WC h3
section
variable {H:Type} {enc:TypeId×Value->H} {W:rQ} {base:Nat} {v0 v1 v2:Value} {d0 d1 d2:DataW H} {p0 p1 p2:List MemPlace}
end
section
variable {H:Type} {enc:TypeId×Value->H} {W:rQ} {base:Nat} {v0 v1 v2 v3 v4:Value} {d0 d1 d2 d3 d4:DataW H} {p0 p1 p2 p3 p4:List MemPlace}
theorem grp_in (o0:Value.okWide Tryz.prog W .any base 23 v0)(k0:DataW.Trod enc Tryz.prog W 0 (λ _=>true) true 23 v0 d0 p0)(l0:Light 23 d0)
  (o1:Value.okWide Tryz.prog W .any base 9 v1) (k1:DataW.Trod enc Tryz.prog W 0 (λ _=>true) true 9 v1 d1 p1)
  (o2:Value.okWide Tryz.prog W .any base 23 v2) (k2:DataW.Trod enc Tryz.prog W 0 (λ _=>true) true 23 v2 d2 p2) (l2:Light 23 d2)
  (o3:Value.okWide Tryz.prog W .any base 28 v3) (k3:DataW.Trod enc Tryz.prog W 0 (λ _=>true) true 28 v3 d3 p3) (l3:Light 28 d3)
  (o4:Value.okWide Tryz.prog W .any base 29 v4) (k4:DataW.Trod enc Tryz.prog W 0 (λ _=>true) true 29 v4 d4 p4) (l4:Light 29 d4)
  (hb:Rows.uptoBulk d0+Rows.uptoBulk d1+Rows.uptoBulk d2<=1048576) (hE:xI W):
  ∃tb GA gn gc sum tw WA wn wc CA cc cols RA rc rows,v0=.slice GA gn gc/\v1=.string sum/\v2=.slice WA wn wc/\v3=.slice CA (List.length cols) cc/\v4=.slice RA (List.length rows) rc/\GIn W tb GA gn sum tw WA wn CA cols RA rows:=by obtain⟨tb,GA,gn,gc,rfl,a1,a2,a3,a4⟩:=Ea o0 k0 l0;obtain⟨sum,rfl,rfl,rfl,_⟩:=Go.ChangeMaps.open_string Tryz.underlying9 o1 k1;obtain⟨tw,WA,wn,wc,rfl,b1,b2,b3,b4⟩:=Ea o2 k2 l2;obtain⟨CA,cols,cc,rfl,c1,c2,_⟩:=UU o3 k3 l3;obtain⟨RA,rows,rc,rfl,r1,r2,r3⟩:=XI o4 k4 l4;rw[DZ] at hb;exact⟨tb,GA,gn,gc,sum,tw,WA,wn,wc,CA,cc,cols,RA,rc,rows,rfl,rfl,rfl,rfl,rfl,⟨a1,b1,a2,b2,a4 TD,b4 TD,by omega,by omega,hE,c1,c2,r1,r2,λ r hr=>⟨(r3 r hr).1,λ v hv=>((r3 r hr).2 v hv).1⟩⟩⟩
end
end Go.Proofs.YtndgjggokjickaaGreatDoor
