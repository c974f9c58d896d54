/- Parts of the proof. -/
import Derived.Test.YtndgjggokjickaaGreatDoorXG4
namespace Go.Proofs.YtndgjggokjickaaGreatDoor.R
open List
variable{p:Prop}
set_option maxHeartbeats 90000000
set_option maxRecDepth 100000
set_option linter.unusedSimpArgs false
set_option linter.unusedVariables false
variable{σ:ck}
theorem VE{s:w_} (h:σ.head s=true):∃t r,σ=.good (t::r)/\jg s t=true:=by
 match σ with
 | .bad n=>simp[ck.head,ck.words,dK] at h
 | .good l=>obtain⟨t,r,e,ht⟩:=LD (s:=s) (l:=l) h;exact⟨t,r,by rw[e],ht⟩
theorem jZ{s:w_} (h:σ.head s=true):dv (may s) σ=.good σ.words.tail:=by rw[LF,h];rfl
theorem jn{s:w_} (h:σ.head s=false):dv (may s) σ=σ:=by rw[LF,h];rfl
theorem ry{s:w_} (h:σ.head s=true):dv (must s) σ=.good σ.words.tail:=by rw[FN,h];rfl
theorem Ab{s:w_} (h:σ.head s=false):dv (must s) σ=.bad σ.left:=by rw[FN,h];rfl
def wu:List (w_)->Ps Unit
 | []=>pure ()
 | s::ks=>do must s;wu ks
theorem um (s:w_)(ks:List (w_))(σ:ck):dv (wu (s::ks)) σ=dv (wu ks) (dv (must s) σ):=Vs (x:=()) (PI _ _)
theorem rz (σ:ck):dv (wu []) σ=σ:=Vt _ _
theorem Ch (s:w_)(σ:ck):dv (wu [s]) σ=dv (must s) σ:=by rw[um,rz]
theorem sH (t:Wd)(r:dH):dv vX (.good (t::r))=if t.k=1/\td t.s=false then .good r else .bad (r.length+1):=by
 simp only[dv,vX];by_cases h:t.k=1/\td t.s=false
 ·simp only[h,and_self,if_true]
 ·simp only[h,if_false];rfl
theorem PQ (t:Wd)(r:dH):kz vX (.good (t::r)) ⟨t.s.toArray⟩:=by
 simp only[kz,vX];by_cases h:t.k=1/\td t.s=false
 ·simp only[h,and_self,if_true]
 ·simp only[h,if_false]
theorem LP (t:Wd)(r:dH):dv IK (.good (t::r))=if t.k=2 then .good r else .bad (r.length+1):=by
 simp only[dv,IK];by_cases h:t.k=2
 ·simp only[h,if_true]
 ·simp only[h,if_false];rfl
theorem VF (t:Wd)(r:dH):kz IK (.good (t::r)) t.n:=by
 simp only[kz,IK];by_cases h:t.k=2
 ·simp only[h,if_true]
 ·simp only[h,if_false]
variable{α:Type}{n:Nat}
theorem pk{p:Ps α}  (h:dv p σ=.bad n)(x:α):kz p σ x:=by
 match σ with
 | .bad m=>trivial
 | .good l=>
   simp only[dv,kz] at h ⊢
   cases e:p l with
   | error m=>trivial
   | ok y=>obtain⟨y,r⟩:=y;rw[e] at h;cases h
section
variable {s:w_} {op:Int} {same below:Ps Tr} {σ:ck} {x:Tr}
end
open Go.ChangeShapes Go.WideShapes Go.ChangeAt Go.RowKit
def dy.ptr (ρ:dy):Value:=aw ρ.g
variable{ρ:dy}{w:rQ}{big:Bool}
theorem dy.at.facts(h:ρ.at w σ big):
  w.cell? ⟨ρ.g,0,none⟩=some (aL ρ.gl ρ.n ρ.c)/\w.cell? ⟨ρ.g,1,none⟩=some (af ((ρ.n:Int) - σ.left))/\w.cell? ⟨ρ.g,2,none⟩=some (af (ρ.bad σ))/\w.cell? ⟨ρ.g,3,none⟩=some (.bool big)/\
  w.frozen? ⟨ρ.g,1,none⟩=false/\w.frozen? ⟨ρ.g,2,none⟩=false/\w.frozen? ⟨ρ.g,3,none⟩=false:=
 ⟨h.blk.cell 0,h.blk.cell 1,h.blk.cell 2,h.blk.cell 3,h.blk.frozen 1,h.blk.frozen 2,h.blk.frozen 3⟩
theorem dy.at.place(h:ρ.at w σ big):((ρ.n:Int) - σ.left)=((ρ.n - σ.left:Nat):Int):=by have:=h.left;omega
theorem dy.at.Tb(h:ρ.at w σ big):decide (ρ.bad σ < 0)=σ.iy:=by
 have hl:=h.left
 match σ,hl with
 | .bad m,hl=>have e:ρ.bad (.bad m)=(ρ.n:Int) - m:=rfl;have e2:(ck.bad m).left=m:=rfl;rw[e2] at hl;rw[e];simp only[ck.iy,decide_eq_false_iff_not];omega
 | .good l,_=>rfl
theorem E6{s:t_} {t:Wd}:jg s.data.toList t=((t.k==1 || t.k==4)&&(t.s==s.toList)):=by unfold jg;rw[ByteArray.toList_eq]
def pW:Obj:=.cells #[ag 0,au,af 0,af 0] 172
def dI (t:qX):x_:= #[ag t.w.k,.string ⟨t.w.s.toArray⟩,af t.w.n,af t.p]
structure acN (ρ:dy) (w:rQ) (t:qX) (pl:Nat) (bd:Int):Prop where
 c0:w.cell? ⟨ρ.g,0,none⟩=some (aL ρ.gl ρ.n ρ.c)
 c1:w.cell? ⟨ρ.g,1,none⟩=some (af pl)
 c2:w.cell? ⟨ρ.g,2,none⟩=some (af bd)
 d0:w.cell? ⟨ρ.gl,pl*4,none⟩=some (ag t.w.k)
 d1:w.cell? ⟨ρ.gl,pl*4+1,none⟩=some (.string ⟨t.w.s.toArray⟩)
 d2:w.cell? ⟨ρ.gl,pl*4+2,none⟩=some (af t.w.n)
 d3:w.cell? ⟨ρ.gl,pl*4+3,none⟩=some (af t.p)
variable{w':rQ}{pl:Nat}{bd:Int}
theorem acN.later{t:qX}  (h:acN ρ w t pl bd)(hb:aj w w'):acN ρ w' t pl bd:=by obtain⟨h0,h1,h2,h3,h4,h5,h6⟩:=h;exact⟨(hb.cell (jX h0)).trans h0,(hb.cell (jX h1)).trans h1,(hb.cell (jX h2)).trans h2,(hb.cell (jX h3)).trans h3,(hb.cell (jX h4)).trans h4,(hb.cell (jX h5)).trans h5,(hb.cell (jX h6)).trans h6⟩
theorem dy.at.wA(h:ρ.at w σ big):∃(t:qX) (pl:Nat) (bd:Int),pl=ρ.n - σ.left/\pl < ρ.n/\ρ.n<=5000/\bd=ρ.bad σ/\decide (bd < 0)=σ.iy/\(∀l,σ=.good l->∃r,l=t.w::r)/\0<=t.w.n/\t.w.n<=9223372036854775807/\acN ρ w t pl bd:=by obtain⟨t,ht,hg⟩:=h.next;obtain⟨d0,d1,d2,d3⟩:=h.cell _ t ht;obtain⟨c0,c1,c2,c3,f1,f2,f3⟩:=h.facts;have hl:=h.left;rw[h.place] at c1;have hn:=h.E5 t (mem_of_getElem? ht);exact⟨t,_,_,rfl,by omega,h.small,rfl,h.Tb,hg,hn.1,hn.2,c0,c1,c2,d0,d1,d2,d3⟩
theorem zgx.KbM(h:p:=by
 go_enter Tryz.func133,Tryz.ntmps133;go_wp2_with fail;go_region;clear c0 c1 c2 d0 d1 d2 d3 y0 y1 y2 z0 z1 z2 z3 x0 x1 v0 v1 v2 v3;obtain⟨u0,u1,u2,u3,_⟩:=bO HT;unfold dI at x2 u0 u1 u2 u3 hb;generalize (w.alloc _).drew=W at*;go_wp2_with fail
 all_goals
  go_ret;refine⟨mh ?_,hb⟩;rw[XV.ae];generalize (t.w.s==s.toList)=X;cases X <;> rw[Bool.eq_iff_iff] <;> simp <;> omega):p:=h
theorem lK (ρ:dy)(w:rQ)(σ:ck)(big:Bool)(h:ρ.at w σ big)(s:t_):
  ar 133 #[ρ.ptr,.string s] w λ e w'=>e=.returned (.bool (σ.head s.data.toList))/\aj w w':=by
 obtain⟨t,pl,bd,hpl,hlt,hsm,uo,cj,hg,Kf,uT,hp⟩:=h.wA;have Ef:=hp.later (ah w pW);have LQ:=hp.later ((ah w (.cells (dI t) 172)).drew)
 have hHD:σ.head s.data.toList=(decide (bd < 0)&&((t.w.k==1 || t.w.k==4)&&(t.w.s==s.toList))):=by
  rw[cj]
  match σ with
  | .bad m=>rfl
  | .good l=>obtain⟨r,rfl⟩:=hg l rfl;rw[<- E6];rfl
 have XV:=aa hHD;have hb:=(ah w (.cells (dI t) 172)).drew;have HT:=(aB.new w 172 (dI t)).drew;clear hHD hpl hg cj uo h;unfold dy.ptr;generalize σ.head s.data.toList=R at*;open zgx in exact Zet
def Ci (ρ:dy)(W:rQ)(zh:ck)(big:Bool)(e:Ending)(w':rQ):Prop:=e=.returned (.tuple #[])/\eN ρ W w' zh big
theorem pn (ρ:dy)(w:rQ)(σ:ck)(big:Bool)(h:ρ.at w σ big):
  ar 88 #[ρ.ptr] w (Ci ρ w (.bad σ.left) big):=by
 obtain⟨c0,c1,c2,c3,f1,f2,f3⟩:=h.facts;have hlf:=h.left;have cj:=h.Tb;have UE:ck.of ρ.ws (.bad σ.left):=⟨(ck.PJ h.of).1,(ck.PJ h.of).2⟩;unfold dy.ptr;by_cases hg:ρ.bad σ < 0
 ·have hB:=aB.aT h.blk 2 (af ((ρ.n:Int) - σ.left));go_enter Tryz.func88,Tryz.ntmps88;go_wp2_with fail;go_end0;exact⟨rfl,h.set hB (aG (aO (Below.refl _ _)) 2 _) UE,aG (aO (Below.refl _ _)) 2 _⟩
 ·have uo:σ=.bad σ.left:=by
   match σ with
   | .bad m=>rfl
   | .good l=>exact absurd (by show(-1:Int)< 0;decide) hg
  have HBD:=aa uo;clear uo;go_enter Tryz.func88,Tryz.ntmps88;go_wp2_with fail;go_end0;rw[<- HBD.ae];exact⟨rfl,eN.refl h⟩
variable{l:dH}
theorem dy.at.step{t:Wd} (h:ρ.at w (.good (t::l)) big)(ht:t.k≠0):
  eN ρ w (w.setCell ⟨ρ.g,1,none⟩ (af ((ρ.n:Int) - l.length))) (.good l) big:=by have hB:=aB.aT h.blk 1 (af ((ρ.n:Int) - l.length));refine⟨h.set hB (aG (aO (Below.refl _ _)) 1 _) ⟨?_,h.of.2.tail ht⟩,aG (aO (Below.refl _ _)) 1 _⟩;exact(suffix_cons _ _).trans h.of.1
theorem rB (ρ:dy)(w:rQ)(σ:ck)(big:Bool)(h:ρ.at w σ big)(s:t_):
  ar 87 #[ρ.ptr,.string s] w λ e w'=>e=.returned (.bool (σ.head s.data.toList))/\eN ρ w w' (dv (may s.data.toList) σ) big:=by
 have hw:=lK ρ w σ big h s;have PS:ρ.ptr=aw ρ.g:=rfl;cases hh:σ.head s.data.toList
 ·rw[hh] at hw;rw[jn hh];go_enter Tryz.func87,Tryz.ntmps87;go_wp2_with (go_at_call 133;refine hw.mono ?_;rintro e w1 ⟨rfl,b1⟩);go_ret;exact⟨rfl,eN.dh h b1⟩
 ·rw[hh] at hw;obtain⟨t,r,rfl,ht⟩:=VE hh;rw[jZ hh];go_enter Tryz.func87,Tryz.ntmps87;have HH:=aa h;have HK:=aa (ane ht);have hsm:=h.small;clear ht hh h;go_wp2_with (go_at_call 133;refine hw.mono ?_;rintro e w1 ⟨rfl,b1⟩;obtain⟨c0,c1,c2,c3,f1,f2,f3⟩:=(HH.ae.later b1).facts;have hlf:=(HH.ae.later b1).left;have e1:(ρ.n:Int) - (ck.good (t::r)).left+1=(ρ.n:Int) - r.length:=by(simp[ck.left];omega));go_ret;have hd:=dy.at.step (HH.ae.later b1) HK.ae;exact⟨rfl,(eN.dh HH.ae b1).trans hd⟩
variable{k:Nat}
theorem VG(h:pl=n - k)(hk:k<=n):(n:Int) - k=pl:=by omega
theorem zfG.Kbr(h:p:=by
 by_cases hk:t.w.k=2
 ·have hd:=dy.at.step HF.ae (show t.w.k≠0 by omega);have s2:(W.setCell ⟨ρ.g,1,none⟩ (af ((ρ.n:Int) - r.length))).cell? ⟨w.heap.size,2,none⟩=some (af t.w.n):=(HB.ae.far (p:=⟨ρ.g,1,none⟩) Tab _).cell 2;go_wp2_with fail;go_ret;refine⟨t.w.n,Kf,uT,rfl,?_,VF _ _⟩;rw[LP,if_pos hk];exact HD.ae.trans hd
 ·have g1:((t.w.k:Int) != 2)=true:=by simp;omega
  go_wp2_with (go_at_call 88;refine hwr.mono ?_;rintro e w1 ⟨rfl,d1⟩);go_ret;have e3:dv IK (.good (t.w::r))=.bad (r.length+1):=by rw[LP,if_neg hk]
  refine⟨0,by omega,by omega,rfl,?_,pk e3 _⟩;rw[e3];exact HD.ae.trans d1):p:=h
theorem zgY.KbX(h:p:=by refine⟨0,by omega,by omega,rfl,?_,FM _ _ _⟩;exact HD.ae.trans d1):p:=h
theorem zf5.KbB(h:p:=by
 by_cases Ew:bd < 0
 ·open zfG in exact ZdN
 ·open zgY in exact Zfi):p:=h
theorem zdf.KaE(h:p:=by go_enter Tryz.func181,Tryz.ntmps181;open zf5 in exact Zed):p:=h
theorem VH (ρ:dy)(w:rQ)(σ:ck)(big:Bool)(h:ρ.at w σ big):
  ar 181 #[ρ.ptr] w λ e w'=>∃x:Int,0<=x/\x<=9223372036854775807/\e=.returned (af x)/\eN ρ w w' (dv IK σ) big/\kz IK σ x:=by
 open zdf in exact Zbk
theorem zfH.Kbr(h:p:=by
 by_cases hk:t.w.k=1
 ·cases hr:td t.w.s
  ·have HC:=aa (show t.w.k=1/\td t.w.s=false from⟨hk,hr⟩);have hd0:=λ(W2:rQ) (hb2:aj W W2)=>dy.at.step (HF.ae.later hb2) (show t.w.k≠0 by omega)
   have HD0:=aa hd0;have hs0:=λ(W2:rQ) (hb2:aj W W2)=>(HB.ae.later hb2).cell 1
   have HS0:=aa hs0;have HX:=aa (λ(W2:rQ) (hb2:aj W W2)=>(HB.ae.later hb2).far (p:=⟨ρ.g,1,none⟩) Tab (af ((ρ.n:Int) - r.length)));rw[hr] at hres;have jR:=aa hres;clear hd0 hs0 hr hres;go_wp2_with (go_at_call 183;go_loud (refine jR.ae.mono ?_;rintro e w1 ⟨rfl,b1⟩;obtain⟨q0,q1,q2,q3,p1,p2,p3⟩:=(HF.ae.later b1).facts;have s1:=(HX.ae w1 b1).cell 1;have e2:(ρ.n:Int) - (ck.good (t.w::r)).left=pl:=(VG PT.ae hlf.2);rw[e2] at q1));go_ret;refine⟨⟨t.w.s.toArray⟩,rfl,?_,PQ _ _⟩;rw[sH,if_pos HC.ae];exact(HD.ae.later b1).trans (HD0.ae w1 b1)
  ·have e3:dv vX (.good (t.w::r))=.bad (r.length+1):=by rw[sH,if_neg (by rw[hr];simp)]
   have HE3:=aa e3;rw[hr] at hres;have jR:=aa hres;clear hr e3 hres;go_wp2_with (first
    |(go_at_call 183;refine jR.ae.mono ?_;rintro e w1 ⟨rfl,b1⟩)
    |(go_at_call 88;refine(pn ρ _ _ big (HF.ae.later b1)).mono ?_;rintro e w2 ⟨rfl,d1⟩))
   go_ret;refine⟨ByteArray.empty,rfl,?_,pk HE3.ae _⟩;rw[HE3.ae];exact(HD.ae.later b1).trans d1
 ·have e3:dv vX (.good (t.w::r))=.bad (r.length+1):=by rw[sH,if_neg (by simp[hk])]
  have HE3:=aa e3;have g1:((t.w.k:Int) != 1)=true:=by simp;omega
  clear e3;go_wp2_with (go_at_call 88;refine hwr.mono ?_;rintro e w1 ⟨rfl,d1⟩);go_ret;refine⟨ByteArray.empty,rfl,?_,pk HE3.ae _⟩;rw[HE3.ae];exact HD.ae.trans d1):p:=h
theorem zgZ.KbX(h:p:=by exact⟨ByteArray.empty,rfl,HD.ae.trans d1,FM _ _ _⟩):p:=h
theorem zf6.KbB(h:p:=by
 have hres:=Ev ⟨t.w.s.toArray⟩ W;have AL:(⟨t.w.s.toArray⟩:t_).data.toList=t.w.s:=by simp
 rw[AL] at hres;by_cases Ew:bd < 0
 ·open zfH in exact ZdN
 ·open zgZ in exact Zfi):p:=h
theorem zdg.KaE(h:p:=by go_enter Tryz.func137,Tryz.ntmps137;open zf6 in exact Zed):p:=h
theorem acO (ρ:dy)(w:rQ)(σ:ck)(big:Bool)(h:ρ.at w σ big):
  ar 137 #[ρ.ptr] w λ e w'=>∃x:t_,e=.returned (.string x)/\eN ρ w w' (dv vX σ) big/\kz vX σ x:=by
 open zdg in exact Zbk
def bL (ks:List (w_)):x_:=(ks.map strOf).toArray
variable{ks:List (w_)}
theorem sI{b:Nat} (h:aB w b 9 (bL ks)) {i:Nat} {s:w_}(hi:ks[i]?=some s):w.cell? ⟨b,i,none⟩=some (.string ⟨s.toArray⟩):=by rw[h.cell i];simp[bL,hi,strOf]
theorem E7{l:List α} {i:Nat} {x:α}(h:l[i]?=some x):l.drop i=x::l.drop (i+1):=by obtain⟨hlt,he⟩:=List.getElem?_eq_some_iff.1 h;rw[drop_eq_getElem_cons hlt,he]
theorem Cj (ks:List (w_))(n:Nat):dv (wu ks) (.bad n)=.bad n:=rfl
theorem VI (ρ:dy)(w:rQ)(σ:ck)(big:Bool)(h:ρ.at w σ big)(ks:List (w_))(b n:Nat)(hn:ks.length=n)(hb:aB w b 9 (bL ks))(hbg:ρ.g≠b)(hsm:n<=10):
  ar 138 #[ρ.ptr,aL b n n] w (Ci ρ w (dv (wu ks) σ) big):=by
 have HH:=aa h;have HB:=aa hb;clear h hb;go_enter Tryz.func138,Tryz.ntmps138;go_wp2_with fail;go_loopw [4] (λ u wr=>∃(i:Nat) (zh:ck),i<=n/\u=af i/\eN ρ w wr zh big/\dv (wu ks) σ=dv (wu (ks.drop i)) zh) (λ u _=>n - (intOf u).toNat);case atStart=>exact⟨0,σ,Nat.zero_le _,rfl,eN.refl HH.ae,rfl⟩
 case round=>
  obtain⟨i,zh,hi,rfl,hD,hst⟩:=hrel;have HD:=aa hD;have HS:=aa hst;clear hD hst;by_cases hlt:i < n
  ·obtain⟨s,hs⟩:∃s,ks[i]?=some s:=⟨_,getElem?_eq_getElem TD⟩;have hc:=sI (HD.ae.blk HB.ae (λ e=>hbg e.symm)) hs;have uU:=aa (E7 hs);clear hs;have hm:=rB ρ wr zh big HD.ae.at_ ⟨s.toArray⟩;cases hh:zh.head s
   ·have XV:=aa hh;rw[show zh.head (⟨s.toArray⟩:t_).data.toList=false from hh,jn (s:=(⟨s.toArray⟩:t_).data.toList) hh] at hm;clear hh;go_wp2_with (first
     |(go_at_call 87;refine hm.mono ?_;rintro e w1 ⟨rfl,d1⟩)
     |(go_at_call 88;refine(pn ρ _ _ big d1.at_).mono ?_;rintro e w2 ⟨rfl,d2⟩))
    go_end0;refine⟨rfl,?_⟩;rw[HS.ae,uU.ae,um,Ab XV.ae,Cj];exact HD.ae.trans (d1.trans d2)
   ·have XV:=aa hh;rw[show zh.head (⟨s.toArray⟩:t_).data.toList=true from hh,jZ (s:=(⟨s.toArray⟩:t_).data.toList) hh] at hm;clear hh;go_wp2_with (first
     |(go_at_call 87;refine hm.mono ?_;rintro e w1 ⟨rfl,d1⟩))
    go_roundw;case rel=>refine⟨i+1,_,by omega,by go_num,HD.ae.trans d1,?_⟩;rw[HS.ae,uU.ae,um,ry XV.ae]
    case measure=>exact ZaU
  ·obtain rfl:i=n:=by omega
   have hd:ks.drop i=[]:=drop_eq_nil_of_le TD;rw[hd] at HS;go_wp2_with fail;go_end0;refine⟨rfl,?_⟩;rw[HS.ae,rz];exact HD.ae
theorem FT (ρ:dy)(w:rQ)(σ:ck)(big:Bool)(h:ρ.at w σ big)(n:Nat)(hn:n<=1000000):
  ar 140 #[ρ.ptr,af n] w λ e w'=>e=.returned (.bool (σ.head dN))/\eN ρ w w' (dv (may dN) σ) (big || decide (64 < n)):=by
 have PS:ρ.ptr=aw ρ.g:=rfl;obtain⟨c0,c1,c2,c3,f1,f2,f3⟩:=h.facts;by_cases h64:64 < n
 ·have hB:=aB.aT h.blk 3 (.bool true);have hg:w.grownBy (w.setCell ⟨ρ.g,3,none⟩ (.bool true)) (some ρ.g):=aG (aO (Below.refl _ _)) 3 _;have hat:ρ.at (w.setCell ⟨ρ.g,3,none⟩ (.bool true)) σ true:=h.set hB hg h.of;have hm:=rB ρ _ σ true hat ⟨#[44]⟩;have e1:(big || decide (64 < n))=true:=by simp[h64]
  have hn:(64:Int)< n:=by omega
  rw[e1];clear h hat hB e1;unfold dy.ptr at*;go_enter Tryz.func140,Tryz.ntmps140;go_wp2_with (first
   |(go_at_call 87;refine hm.mono ?_;rintro e w1 ⟨rfl,d1⟩))
  go_ret;exact⟨rfl,⟨d1.at_,aY hg d1.grown⟩⟩
 ·have hm:=rB ρ _ σ big h ⟨#[44]⟩;have e1:(big || decide (64 < n))=big:=by simp[h64]
  have hn:¬(64:Int)< n:=by omega
  rw[e1];clear h e1;unfold dy.ptr at*;go_enter Tryz.func140,Tryz.ntmps140;go_wp2_with (first
   |(go_at_call 87;refine hm.mono ?_;rintro e w1 ⟨rfl,d1⟩))
  go_ret;exact⟨rfl,d1⟩
def kU (lv:Nat)(t:Wd):Int:=(ZZ (opsL lv) [t]).getD 0
variable{lv:Nat}
theorem aip{t:Wd}(h1:t.k≠1)(h4:t.k≠4):kU lv t=0:=by
 unfold kU
 have:∀ks,ZZ ks [t]=none:=by
  intro ks
  induction ks with
  | nil=>rfl
  | cons a ks ih=>obtain⟨s,o⟩:=a;simp[ZZ,dK,jg,h1,h4,ih]
 rw[this];rfl
theorem Tc{t:Wd}(h:t.k=1\/t.k=4):kU lv t=((opsL lv).lookup t.s).getD 0:=by
 unfold kU;congr 1;have hk:(t.k==1 || t.k==4)=true:=by rcases h with h | h <;> simp[h]
 generalize opsL lv=ks
 induction ks with
 | nil=>rfl
 | cons a ks ih=>obtain⟨s,o⟩:=a;simp only[ZZ,dK,jg,hk,Bool.true_and,List.lookup];rw[ih];cases e:(t.s==s)<;> simp
def sJ (lv:Nat)(t:Wd)(w:rQ)(e:Ending)(w':rQ):Prop:=e=.returned (ag (kU lv t))/\aj w w'
theorem na (lv:Nat)(hlv:lv=0\/lv=1\/lv=4\/lv=5)(t:qX)(w:rQ)(hk:t.w.k=1\/t.w.k=4):
  ar 200 #[af lv,.agg (dI t)] w (sJ lv t.w w):=by
 have HR:=aa (Tc (lv:=lv) hk);have hb:=ah w (.cells (dI t) 172);obtain⟨u0,u1,u2,u3,_⟩:=bO (aB.new w 172 (dI t));unfold sJ;unfold dI at*;rcases hk with hk | hk
 ·have n1:((t.w.k:Int) != 1)=false:=by simp;omega
  exact ZcG
 ·have n1:((t.w.k:Int) != 1)=true:=by simp;omega
  have n2:((t.w.k:Int) != 4)=false:=by simp;omega
  exact ZcG
def lu:List (w_):=[[61],[60,62],[60],[60,61],[62],[62,61]]
theorem E8{x:w_} {i:Nat}(hi:i < 6):∃y,lu[i]?=some y/\((opsL 3).drop i).lookup x=if x==y then some ((10:Int)+i)else((opsL 3).drop (i+1)).lookup x:=by
 rcases(by omega:i=0\/i=1\/i=2\/i=3\/i=4\/i=5)with rfl | rfl | rfl | rfl | rfl | rfl <;> refine⟨_,rfl,?_⟩<;> simp[opsL,List.lookup,amY,amZ,ana,anb,ahY,anc] <;> split <;> simp_all
theorem PU (t:qX)(w:rQ)(hk:t.w.k=1\/t.w.k=4):
  ar 200 #[af (3:Nat),.agg (dI t)] w (sJ 3 t.w w):=by
 have HR:=aa (Tc (lv:=3) hk);obtain⟨u0,u1,u2,u3,_⟩:=bO (aB.new w 172 (dI t))
 have hn:(((t.w.k:Int) != 1)=false)\/((((t.w.k:Int) != 1)=true)/\(((t.w.k:Int) != 4)=false)):=by
  rcases hk with hk | hk
  ·exact .inl Tab
  ·exact .inr ⟨by simp;omega,by simp;omega⟩
 clear hk;have b1:=ai.then (ah w (.cells (dI t) 172)) (ah _ (.cells (bL lu) 9));have B1:=(aB.new w 172 (dI t)).alloc (.cells (bL lu) 9);have B2:=aB.new (w.alloc (.cells (dI t) 172)) 9 (bL lu);rw[World.size_alloc] at B2;have eX:=aa B1;have fY:=aa B2;have hb:=aa b1;clear B1 B2 b1;unfold sJ;have anq:bL lu= #[.string ⟨#[61]⟩,.string ⟨#[60,62]⟩,.string ⟨#[60]⟩,.string ⟨#[60,61]⟩,.string ⟨#[62]⟩,.string ⟨#[62,61]⟩]:=rfl;rw[anq] at eX fY hb;unfold dI at*;generalize kU 3 t.w=R at*
 rcases hn with n1 |⟨n1,n2⟩;all_goals
  go_enter Tryz.func200,Tryz.ntmps200;go_wp2_with fail;clear u0 u1 u2 u3;generalize (w.alloc _).alloc _=W at*;go_loopw [6] (λ u wr=>∃k:Nat,k<=6/\u=af k/\aj W wr/\(opsL 3).lookup t.w.s=((opsL 3).drop k).lookup t.w.s) (λ u _=>6 - (intOf u).toNat);case atStart=>exact⟨0,Nat.zero_le _,rfl,Below.refl _ _,rfl⟩
  case round=>
   obtain⟨k,hi,rfl,hP,hlk⟩:=hrel;have Eh:=aa hlk;have iz:=aa hP;clear hlk hP;by_cases hlt:k < 6
   ·obtain⟨y,hy,hstep⟩:=E8 (x:=t.w.s) hlt;have HST:=aa hstep;have c2:=(fY.ae.later iz.ae).cell k;rw[<- anq,show(bL lu)[k]?=some (.string ⟨y.toArray⟩) by simp[bL,hy,strOf]] at c2;have c1:=(eX.ae.later iz.ae).cell 1;have sZ:k < 6:=hlt;clear hy hstep;cases he:(t.w.s==y)
    ·have HE:=aa he;have t1:(y==t.w.s)=false:=by rw[beq_eq_false_iff_ne] at he ⊢;exact λ e=>he e.symm
     clear he;go_wp2_with fail;go_region;go_wp2_with fail;go_roundw;case rel=>refine⟨k+1,by omega,by go_num,iz.ae.drew,?_⟩;rw[Eh.ae,HST.ae,HE.ae];rfl
     case measure=>simp[intOf];omega
    ·have HE:=aa he;have t1:(y==t.w.s)=true:=by rw[beq_iff_eq] at he ⊢;exact he.symm
     clear he;go_wp2_with fail;go_region;go_wp2_with fail;go_ret;refine⟨?_,ai.then hb.ae iz.ae.drew⟩;rw[HR.ae,Eh.ae,HST.ae,HE.ae];refine mX ?_;rcases(by omega:k=0\/k=1\/k=2\/k=3\/k=4\/k=5)with rfl | rfl | rfl | rfl | rfl | rfl <;> rfl
   ·obtain rfl:k=6:=by omega
    go_wp2_with fail;go_ret;rw[HR.ae,Eh.ae];exact⟨rfl,ai.then hb.ae iz.ae⟩
theorem PV (lv:Nat)(hlv:lv=0\/lv=1\/lv=3\/lv=4\/lv=5)(t:qX)(w:rQ):
  ar 200 #[af lv,.agg (dI t)] w (sJ lv t.w w):=by
 by_cases hk:t.w.k=1\/t.w.k=4
 ·rcases hlv with rfl | rfl | rfl | rfl | rfl
  ·exact na 0 Taa t w hk
  ·exact na 1 Taa t w hk
  ·exact PU t w hk
  ·exact na 4 Taa t w hk
  ·exact na 5 Taa t w hk
 ·have hb:=ah w (.cells (dI t) 172);obtain⟨u0,u1,u2,u3,_⟩:=bO (aB.new w 172 (dI t));unfold sJ;unfold dI at*;have HR:=aa (aip (lv:=lv) (λ e=>hk (.inl e)) (λ e=>hk (.inr e)));generalize kU lv t.w=R at*;have n1:((t.w.k:Int) != 1)=true:=by simp;omega
  have n2:((t.w.k:Int) != 4)=true:=by simp;omega
  go_enter Tryz.func200,Tryz.ntmps200;go_wp2_with fail;go_ret;rw[HR.ae];exact⟨rfl,hb⟩
def qp:Obj:=.cells #[ag 0,ag 0,af 0,au,au,af 0,ay] 46
variable{q:Nat}{y:Ex}
theorem dw(h:aB w q 46 (bD y).toArray):
  w.cell? ⟨q,0,none⟩=some (ag y.op)/\w.cell? ⟨q,1,none⟩=some (ag y.v.k)/\w.cell? ⟨q,2,none⟩=some (af y.v.n)/\w.cell? ⟨q,3,none⟩=some (.string y.v.s)/\w.cell? ⟨q,4,none⟩=some (.string y.name)/\w.cell? ⟨q,5,none⟩=some (af y.width)/\w.cell? ⟨q,6,none⟩=some (.slice y.A y.n y.c):=
 ⟨h.cell 0,h.cell 1,h.cell 2,h.cell 3,h.cell 4,h.cell 5,h.cell 6⟩
variable{T:TypeId}{c d e f g:Value}
theorem bS{a b:Value}(h:aB w q T #[a,b,c,d,e,f,g]):
  w.cell? ⟨q,0,none⟩=some a/\w.cell? ⟨q,1,none⟩=some b/\w.cell? ⟨q,2,none⟩=some c/\w.cell? ⟨q,3,none⟩=some d/\w.cell? ⟨q,4,none⟩=some e/\w.cell? ⟨q,5,none⟩=some f/\w.cell? ⟨q,6,none⟩=some g:=
 ⟨h.cell 0,h.cell 1,h.cell 2,h.cell 3,h.cell 4,h.cell 5,h.cell 6⟩
variable{cs:x_}
theorem ey(h:aB w q 46 cs):
  w.frozen? ⟨q,0,none⟩=false/\w.frozen? ⟨q,1,none⟩=false/\w.frozen? ⟨q,2,none⟩=false/\w.frozen? ⟨q,3,none⟩=false/\w.frozen? ⟨q,4,none⟩=false/\w.frozen? ⟨q,5,none⟩=false/\w.frozen? ⟨q,6,none⟩=false:=
 ⟨h.frozen 0,h.frozen 1,h.frozen 2,h.frozen 3,h.frozen 4,h.frozen 5,h.frozen 6⟩
def dY (w:rQ)(q:Nat)(y:Ex):rQ:=((((((w.setCell ⟨q,0,none⟩ (ag y.op)).setCell ⟨q,1,none⟩ (ag y.v.k)).setCell ⟨q,2,none⟩ (af y.v.n)).setCell ⟨q,3,none⟩ (.string y.v.s)).setCell ⟨q,4,none⟩ (.string y.name)).setCell ⟨q,5,none⟩ (af y.width)).setCell ⟨q,6,none⟩ (.slice y.A y.n y.c)
theorem ez{a b:Value}(h:aB w q T #[a,b,c,d,e,f,g])(y:Ex):aB (dY w q y) q T (bD y).toArray:=by have:=((((((h.aT 0 (ag y.op)).aT 1 (ag y.v.k)).aT 2 (af y.v.n)).aT 3 (.string y.v.s)).aT 4 (.string y.name)).aT 5 (af y.width)).aT 6 (.slice y.A y.n y.c);exact ZdC
theorem VJ{p:Nat}  (h:aB w p T cs)(hp:p≠q)(y:Ex):aB (dY w q y) p T cs:=
 ((((((h.far (p:=⟨q,0,none⟩) hp _).far (p:=⟨q,1,none⟩) hp _).far (p:=⟨q,2,none⟩) hp _).far (p:=⟨q,3,none⟩) hp _).far (p:=⟨q,4,none⟩) hp _).far (p:=⟨q,5,none⟩) hp _).far (p:=⟨q,6,none⟩) hp _
variable{W:rQ}
theorem eN.dY(h:eN ρ W w σ big)(hW:ρ.g < W.heap.size)(hq:W.heap.size<=q)(y:Ex):eN ρ W (dY w q y) σ big:=
 ((((((h.far hW hq 0 _).far hW hq 1 _).far hW hq 2 _).far hW hq 3 _).far hW hq 4 _).far hW hq 5 _).far hW hq 6 _
theorem afN{S:rQ->Nat->Prop}(hs:∀(w:rQ) (i:Nat) (u:Value),∀b,S w b->(∀o,(w.setCell ⟨q,i,none⟩ u).cell? ⟨b,o,none⟩=w.cell? ⟨b,o,none⟩)/\S (w.setCell ⟨q,i,none⟩ u) b)(y:Ex):∀b,S w b->(∀o,(Go.Proofs.YtndgjggokjickaaGreatDoor.R.dY w q y).cell? ⟨b,o,none⟩=w.cell? ⟨b,o,none⟩)/\S (Go.Proofs.YtndgjggokjickaaGreatDoor.R.dY w q y) b:=by intro b hb;obtain⟨c0,s0⟩:=hs w 0 (ag y.op) b hb;obtain⟨c1,s1⟩:=hs _ 1 (ag y.v.k) b s0;obtain⟨c2,s2⟩:=hs _ 2 (af y.v.n) b s1;obtain⟨c3,s3⟩:=hs _ 3 (.string y.v.s) b s2;obtain⟨c4,s4⟩:=hs _ 4 (.string y.name) b s3;obtain⟨c5,s5⟩:=hs _ 5 (af y.width) b s4;obtain⟨c6,s6⟩:=hs _ 6 (.slice y.A y.n y.c) b s5;exact⟨λ o=>(c6 o).trans ((c5 o).trans ((c4 o).trans ((c3 o).trans ((c2 o).trans ((c1 o).trans (c0 o)))))),s6⟩
variable{B:Nat}{t:Tr}
theorem Tr.at_.dY(h:t.at_ w (ju B w) y)(hq:q < B)(z:Ex):t.at_ (dY w q z) (ju B (Go.Proofs.YtndgjggokjickaaGreatDoor.R.dY w q z)) y:=Tr.at_.keep (afN (S:=λ w=>ju B w) (λ w i u=>sF hq i u) z) t y h
section
variable {lv:Nat} {σ zh:ck} {x y:Tr} {o:Int}
end
theorem Ck (lv:Nat)(z:Int)(hz:z=lv)(hlv:lv=0\/lv=1\/lv=3\/lv=4\/lv=5)(t:qX)(w:rQ):
  ar 200 #[af z,.agg #[ag t.w.k,.string ⟨t.w.s.toArray⟩,af t.w.n,af t.p]] w λ e w'=>e=.returned (ag (kU lv t.w))/\aj w w':=by subst hz;exact PV lv hlv t w
def uq (y:Ex):Obj:=.cells (bD y).toArray 46
def Ac (y z:Ex):Obj:=.cells (bD y++bD z).toArray 46
section
variable {σ zh:ck} {x y:Tr} {o:Int}
end
section
variable {t:Wd} {r:dH} {x:Tr}
structure Plain (t:Wd):Prop where
 i:t.k≠2
 s:t.k≠3
structure LS (t:Wd):Prop where
 p:Plain t
 wt:jg Pz t=false
 wf:jg AG t=false
 wn:jg ZV t=false
 wo:jg eL t=false
end
section
variable {n:t_} {σ:ck} {z:Tr} {op:Int}
end
theorem FU (v:Val)(w:rQ):ar 208 #[.agg #[ag v.k,af v.n,.string v.s]] w λ e w'=>e=.returned (.agg #[ag 1,ag v.k,af v.n,.string v.s,au,af 0,ay])/\aj w w':=by go_enter Tryz.func208,Tryz.ntmps208;go_wp2_with fail;refine bodyPost_ret (v:=.agg #[ag 1,ag v.k,af v.n,.string v.s,au,af 0,ay]) ?_ rfl ⟨rfl,ai.then (ah w _) (ah _ _)⟩;simp[results,Tryz.results208,go_sem]
theorem cw (ρ:dy)(w:rQ)(σ:ck)(big:Bool)(h:ρ.at w σ big)(s:t_)(hh:σ.head s.data.toList=false):
  ar 87 #[ρ.ptr,.string s] w λ e w'=>e=.returned (.bool false)/\eN ρ w w' σ big:=by have:=rB ρ w σ big h s;rw[hh,jn hh] at this;exact this
theorem oh (ρ:dy)(w:rQ)(σ:ck)(big:Bool)(h:ρ.at w σ big)(s:t_)(hh:σ.head s.data.toList=true):
  ar 87 #[ρ.ptr,.string s] w λ e w'=>e=.returned (.bool true)/\eN ρ w w' (.good σ.words.tail) big:=by have:=rB ρ w σ big h s;rw[hh,jZ hh] at this;exact this
section
variable {P:Program} {l zs:List Oper} {Q:yD} {u:Nat->Value} {ch:List Nat} {G:wL->rQ->Prop} {a0:Act} {w0:rQ}
end
theorem _root_.Go.Proofs.YtndgjggokjickaaGreatDoor.ai.cell{a b:rQ}(h:ai a b) {p:Addr}(hp:p.block < a.heap.size):b.cell? p=a.cell? p:=Below.cell h hp
theorem po{a b:rQ} {row:Option Nat}(h:a.grownBy b row) {p:Addr}(hp:p.block < a.heap.size)(hr:some p.block≠row):b.cell? p=a.cell? p:=by unfold World.cell?;rw[h.block p.block hp hr]
def Cl (o0 o1 o2 o3 o4 o5 o6:Oper)(q d0 d1 d2 d3 d4 d5 d6:Tmp):Bool:=
 (tmpsOf o0== [q])&&(df [o0,o1,o2,o3,o4,o5,o6] o0 q==none)&&(tmpsOf o1== [d0])&&(df [o0,o1,o2,o3,o4,o5,o6] o1 d0==some 0)&&
 (tmpsOf o2== [0])&&(df [o0,o1,o2,o3,o4,o5,o6] o2 0==none)&&(tmpsOf o3== [d2])&&(df [o0,o1,o2,o3,o4,o5,o6] o3 d2==some 2)&&
 (tmpsOf o4== [d3])&&(df [o0,o1,o2,o3,o4,o5,o6] o4 d3==some 3)&&(tmpsOf o5== [d1,d4])&&(df [o0,o1,o2,o3,o4,o5,o6] o5 d1==some 1)&&(df [o0,o1,o2,o3,o4,o5,o6] o5 d4==some 4)&&
 (tmpsOf o6== [q])&&(df [o0,o1,o2,o3,o4,o5,o6] o6 q==none)&&
 (o0.dst==some d0)&&(o1.dst==some d1)&&(o2.dst==some d2)&&(o3.dst==some d3)&&(o4.dst==some d4)&&(o5.dst==some d5)&&(o6.dst==some d6)&&
 o0.guard.isNone && o1.guard.isNone && o2.guard.isNone && o3.guard.isNone && o4.guard.isNone && o5.guard.isNone && o6.guard.isNone
section
variable {P:Program} {β:Type} (f:β->wL) (val:β->Value) (e:TypeId) (size base:Nat) (l:List β) (lv:Value) (Post:β->rQ->rQ->Prop) (w0:rQ)
def Td:wL->rQ->Prop
 | [],w=>ai w0 w
 | [a],w=>∃y w1 gZ,a=val y/\ai w0 w1/\Post y w1 gZ/\ai gZ w
 | [a,s],w=>∃y w1 gZ g0,a=val y/\s=aL g0 1 1/\ai w0 w1/\Post y w1 gZ/\ai gZ w/\aB w g0 e (f y).toArray
 | [a,s,v],w=>∃y w1 gZ w2,a=val y/\ai w0 w1/\Post y w1 gZ/\ai gZ w2/\aH f e size w2 base lv l/\w2.grownBy w lv.ownBlock/\aH f e size w base v (l++ [y])/\(lv=ay->l=[]->aH f e size w w2.heap.size v [y])
 | _,_=>False
theorem PW (vs:wL)(w:rQ)(h:Td f val e size base l lv Post w0 vs w):Td f val e size base l lv Post w0 vs w.drew:=by
 match vs,h with
 | [],h=>exact ai.trans h (ai.drew _)
 | [a],⟨y,w1,gZ,h1,h2,h3,h4⟩=>exact⟨y,w1,gZ,h1,h2,h3,h4.trans (ai.drew _)⟩
 | [a,s],⟨y,w1,gZ,g0,h1,h2,h3,h4,h5,h6⟩=>exact Zhh
 | [a,s,v],⟨y,w1,gZ,w2,h1,h2,h3,h4,h5,h6,h7,h8⟩=>exact⟨y,w1,gZ,w2,h1,h2,h3,h4,h5,⟨h6.os,h6.tape,h6.output,h6.size,h6.block⟩,h7.later (ai.drew _),λ a b=>(h8 a b).later (ai.drew _)⟩
 | _::_::_::_::_,h=>exact h.elim
variable {f val e size base l lv Post w0}
variable {Q:yD} {a0:Act} {id:Nat} {o0 o1 o2 o3 o4 o5 o6 o7:Oper} {q d0 d1 d2 d3 d4 d5 d6:Tmp} {qb k g:Nat} {pq ptr:Value} {F:FuncId} {args:x_}
theorem zci.Kat(h:p:=by
 have Cn:∀vs w,Td f val e size base l lv Post w0 vs w->w.cell? ⟨qb,k,none⟩=some lv:=by exact ZbN
 refine oY [o7] [o0,o1,o2,o3,o4,o5,o6] rfl (λ i=>if i=0 then bc qb k else if i=1 then lv else if i=2 then ptr else bc qb k) [3,4,5] (Td f val e size base l lv Post w0) (PW f val e size base l lv Post w0) (ai.refl w0) hm aZ hz hch V0 rfl ?_ ?_
 ·refine⟨Zdc,Zfs,Zde,Zcu,ZbP,?_,Zdf,trivial⟩
  ·intro ρ w vs hc hG hr;rw[t5] at hr;have r0:=hr.1;have r1:=hr.2.1;simp only[s5] at r0;simp only[s5'] at r1;refine⟨g5,?_⟩;show vs.length=2->_;intro hl
   match vs,hl with
   | [a,s],_=>
     have r1:some s=some (ρ (.tmp d4)):=r1;injection r1 with r1;obtain⟨y,w1,gZ,gg,ha,hs,h2,h3,h4,h5⟩:=hG;obtain⟨k1,k2,k3⟩:=wB h2 h3 h4;obtain⟨v',w',hrun,ho,yL⟩:=fy (P:=P) (w:=w) t ty z bytes ht jB hzs hsz hf (h1 y) k2 gg h5 hlen mL (Nat.le_trans hbase k3);refine aq (hap ρ w _ v' w' r0 (r1.symm.trans hs) hrun) ⟨y,w1,gZ,w,ha,h2,h3,h4,k2,yL.grown,ho,?_⟩;intro hlv hl0;subst hl0;have k4:aH f e size w w.heap.size lv ([]:List β):=by rw[hlv];exact aH.nil
     obtain⟨v2,F2,afO,ho2,_⟩:=fy (P:=P) (w:=w) t ty z bytes ht jB hzs hsz hf (h1 y) k4 gg h5 hlen mL (Nat.le_refl _);rw[hrun] at afO;injection afO with e1 e2;rw[e1,e2];exact ho2
 ·exact Zbs):p:=h
theorem zk (t ty:TypeId)(z:Value)(bytes:Nat)
  (hm:P.follows .mixedOrders=true) (aZ:dP [o0,o1,o2,o3,o4,o5,o6] a0.tmps.size [o0,o1,o2,o3,o4,o5,o6] 0=true) (hz:eU [o0,o1,o2,o3,o4,o5,o6,o7] [o7] 7=true) (hch:lz [o0,o1,o2,o3,o4,o5,o6] [3,4,5]=true) (Cm:Cl o0 o1 o2 o3 o4 o5 o6 q d0 d1 d2 d3 d4 d5 d6=true)
  (hq:a0.eval (.tmp q)=pq) (h0:a0.eval (.tmp 0)=ptr)
  (hfa:∀ρ w,ρ (.tmp q)=pq->(execOp ρ o0).run P w=.ok (.value (bc qb k)) w) (E9:∀ρ w,ρ (.tmp q)=pq->(execOp ρ o6).run P w=.ok (.value (bc qb k)) w)
  (hld:∀ρ w,ρ (.tmp d0)=bc qb k->w.cell? ⟨qb,k,none⟩=some lv->(execOp ρ o1).run P w=.ok (.value lv) w)
  (Ey:∀ρ w,ρ (.tmp 0)=ptr->(execOp ρ o2).run P w=.ok (.value ptr) w)
  (cL:∀ρ w,oG ρ->ρ (.tmp d2)=ptr->(execOp ρ o3).run P w=.ok (.enter F args) w)
  (Kd:∀ρ w y,ρ (.tmp d3)=val y->(execOp ρ o4).run P w=.ok (.value (aL w.heap.size 1 1)) (w.alloc (.cells (f y).toArray e)))
  (hap:∀ρ w s v' w',ρ (.tmp d1)=lv->ρ (.tmp d4)=s->(Builtin.append_ #[t,t] ty #[lv,s]).run P w=.ok v' w'->(execOp ρ o5).run P w=.ok (.value v') w')
  (ht:P.underlying t=some (.slice e)) (jB:(P.info? e).map (λ i=>(i.zero,i.size,i.bytes))=some (some z,size,bytes)) (hzs:z.cells.size=size) (hsz:0 < size) (hf:∀x,(f x).length=size) (h1:∀y,∀u∈f y,u.oneCell'=true)
  (hown:aH f e size w0 base lv l) (hcell:w0.cell? ⟨qb,k,none⟩=some lv) (Uw:qb≠g) (XW:lv.ownBlock≠some g) (hlq:lv.ownBlock≠some qb) (hlen:(l.length+1)*bytes<=140737488355328) (mL:l.length+1<=140737488355328) (hbase:base<=w0.heap.size)
  (lW:∀w,ai w0 w->Calls P F args w λ e w'=>∃y,e=.returned (val y)/\Post y w w') (Te:∀y w w',Post y w w'->w.grownBy w' (some g))
  (ml:∀y s v' w1 gZ w2 W,ai w0 w1->Post y w1 gZ->ai gZ w2->aH f e size w2 base lv l->w2.grownBy W lv.ownBlock->aH f e size W base v' (l++ [y])->(lv=ay->l=[]->aH f e size W w2.heap.size v' [y])->W.cell? ⟨qb,k,none⟩=some lv->
    wpList P [o0,o1,o2,o3,o4,o5,o6,o7].toArray Q [o7] (((((((a0.put (some d0) (bc qb k)).put (some d1) lv).put (some d2) ptr).put (some d3) (val y)).put (some d4) s).put (some d5) v').put (some d6) (bc qb k)) W):
  (Code.region id [o0,o1,o2,o3,o4,o5,o6,o7].toArray true).wp P Q a0 w0:=by
 open zci in exact ZaR
end
def tu:List (w_):=[[98,117,99,107,101,116],[99,111,117,110,116],[115,117,109],[109,105,110],[109,97,120],[97,118,103],[102,105,114,115,116],[108,97,115,116]]
def mG:List Int:=[20,22,23,24,25,26,27,28]
def xV (l:List Int):x_:=(l.map λ o=>Value.int .u8 o).toArray
theorem Co{x:w_} {i:Nat}(hi:i < 8):∃y o,tu[i]?=some y/\mG[i]?=some o/\(PE.drop i).lookup x=if x==y then some o else(PE.drop (i+1)).lookup x:=by
 rcases(by omega:i=0\/i=1\/i=2\/i=3\/i=4\/i=5\/i=6\/i=7)with rfl | rfl | rfl | rfl | rfl | rfl | rfl | rfl <;> refine⟨_,_,rfl,rfl,?_⟩<;> simp[PE,List.lookup,BW,II,ZX,afJ,afK,afL,SL,ZY] <;> split <;> simp_all
section
variable {W:Ps Tr} {σ:ck} {x y:Tr} {op k:Int}
end
variable{W0:rQ}
theorem eN.own{row:Option Nat}(h:eN ρ W0 w σ big)(hg:ρ.g < W0.heap.size)(k:w.grownBy w' row)(hr:∀G,row=some G->W0.heap.size<=G):eN ρ W0 w' σ big:=by
 have hl:=h.at_.lt;have hs:=h.size;have ng:some ρ.g≠row:=λ e=>by have:=hr _ e.symm;omega
 have nl:some ρ.gl≠row:=λ e=>by have:=hr _ e.symm;omega
 refine⟨⟨h.at_.blk.grown k ng,hl,λ j t ht=>?_,h.at_.of,h.at_.small,h.at_.E5⟩,k.os.trans h.grown.os,k.tape.trans h.grown.tape,k.output.trans h.grown.output,Nat.le_trans hs k.size,λ i hi hne=>?_⟩
 ·have hc:=cell_of_heap (k.block ρ.gl TD nl);obtain⟨h1,h2,h3,h4⟩:=h.at_.cell j t ht;exact⟨(hc _).trans h1,(hc _).trans h2,(hc _).trans h3,(hc _).trans h4⟩
 ·rw[k.block i TD (λ e=>by have:=hr _ e.symm;omega)];exact h.grown.block i hi hne
variable{size base:Nat}{v:Value}{S:Nat->Prop}
theorem PX{f:α->wL} {e:TypeId} (hf:∀x,(f x).length=size)    {l:List α}(h:aH f e size w base v l) (hS:∀g,base<=g->g < w.heap.size->S g):
  ∃A c,v=.slice A l.length c/\RL f size w S A l:=by
 obtain⟨A,c,hv,_⟩:=h.reads;refine⟨A,c,hv,?_⟩
 match l,h,hv with
 | [],_,_=>exact .inl rfl
 | x::l,h,hv=>obtain⟨g,c',hv',hb,hlt,_⟩:=h.cell hf (k:=0) (x:=x) rfl;rw[hv] at hv';injection hv' with hA _ _;refine .inr ⟨g,0,hA,hS g hb hlt,λ i y j u hy hu=>?_⟩;obtain⟨g2,c2,hv2,_,_,hc⟩:=h.cell hf hy;rw[hv] at hv2;injection hv2 with vI _ _;rw[hA] at vI;injection vI with vI;injection vI with vI _ _;subst vI;rw[Nat.zero_add];exact hc j u hu
def Ob (ρ:dy)(W:rQ)(t:Tr)(r:dH)(e:Ending)(w':rQ):Prop:=∃y,e=.returned (mD y)/\t.at_ w' (ju W.heap.size w') y/\eN ρ W w' (.good r) false
def cZ (z:Int)(l:dH)(t:Tr)(r:dH):Prop:=∀(ρ:dy) (w:rQ),ρ.at w (.good l) false->ar 184 #[ρ.ptr,af z] w (Ob ρ w t r)
def mm (l:dH)(t:Tr)(r:dH):Prop:=∀(ρ:dy) (w:rQ),ρ.at w (.good l) false->ar 199 #[ρ.ptr] w (Ob ρ w t r)
variable{r:dH}
theorem Ob.put(hg:ρ.g < w.heap.size)(hq:w.heap.size<=q)(hd:eN ρ w W (.good r) false)(ht:t.at_ W (ju (q+1) W) y):Ob ρ w t r (.returned (mD y)) (dY W q y):=
 ⟨y,rfl,(ht.dY (Nat.lt_succ_self q) y).more TD,hd.dY hg hq y⟩
theorem anu(hn:dK ZU l=false)(H:cZ 3 l t r):cZ 2 l t r:=by intro ρ w h;have ej:=h.FQ;have hb:=ah w qp;have h0:=h.later hb;have hm:=cw ρ _ _ false h0 ⟨#[110,111,116]⟩ hn;exact ZaM
theorem anv(hn:dK sB l=false)(H:cZ 7 l t r):cZ 6 l t r:=by intro ρ w h;have ej:=h.FQ;have hb:=ah w qp;have h0:=h.later hb;have hm:=cw ρ _ _ false h0 ⟨#[45]⟩ hn;exact ZaM
theorem zhG.Kce(h:p:=by
 refine bodyPost_ret (v:=mD y) Zd3 rfl ?_
 ·exact Ob.put ej (Nat.le_refl _) D2.ae (ht.more TD)):p:=h
theorem zeA.Ka2(h:p:=by unfold qp at*;go_enter Tryz.func184,Tryz.ntmps184;go_wp2_with fail;refine(H ρ _ h0).mono ?_;rintro e w2 ⟨y,rfl,ht,PY⟩;unfold mD bD;have Tk:=PY.blk HQ.ae TD;have jR:=aa Tk;obtain⟨z0,z1,z2,z3,z4,z5,z6⟩:=ey Tk;obtain⟨y0,y1,y2,y3,y4,y5,y6⟩:=bS Tk;have D2:=aa ((eN.dh h hb).trans PY);have hs2:=PY.size;open zhG in exact Zgg):p:=h
theorem anw(H:mm l t r):cZ 7 l t r:=by intro ρ w h;open zeA in exact Zcs
variable{u:Wd}
theorem zhE.Kce(h:p:=by
 refine bodyPost_ret (v:=mD y) Zd3 rfl ?_
 ·exact Ob.put ej (Nat.le_refl _) (HD.ae.later hL) ((HT.ae.later hL).more (Nat.le_refl _))):p:=h
theorem zbV.Kap(h:p:=by have Tk:=Tf.ae.later hL;have PY:=HX.ae.later hL;obtain⟨z0,z1,z2,z3,z4,z5,z6⟩:=ey Tk;obtain⟨y0,y1,y2,y3,y4,y5,y6⟩:=bS Tk;obtain⟨x0,x1,x2,x3,x4,x5,x6⟩:=bS PY;have jR:=aa Tk;have hqb:=Tk.lt;open zhE in exact Zgg):p:=h
theorem zeB.Ka2(h:p:=by
 have n2:(z==2)=false:=by rw[beq_eq_false_iff_ne];omega
 have n6:(z==6)=false:=by rw[beq_eq_false_iff_ne];omega
 have n7:(z==7)=false:=by rw[beq_eq_false_iff_ne];omega
 have n3:(z==3)=false:=by rw[beq_eq_false_iff_ne];omega
 have hz5:0<=z/\z<=5:=by omega
 have HBZ:=aa (λ tk=>Ck lv z hz TD tk);have VK:=aa hop;have HH:=aa H;clear hlv hz hop H;unfold qp at*;unfold dy.ptr;go_enter Tryz.func184,Tryz.ntmps184;go_wp2_with (first
  |(go_at_call 184;refine(HH.ae ρ _ h0).mono ?_;rintro e w2 ⟨y,rfl,ht,d2⟩;unfold mD bD))
 have hD:=((eN.dh h hb).trans d2).later (ah w2 (.cells #[ag y.op,ag y.v.k,af y.v.n,.string y.v.s,.string y.name,af y.width,.slice y.A y.n y.c] 46));have hX:=aB.new w2 46 #[ag y.op,ag y.v.k,af y.v.n,.string y.v.s,.string y.name,af y.width,.slice y.A y.n y.c];have hQ:=(d2.blk HQ.ae TD).alloc (.cells #[ag y.op,ag y.v.k,af y.v.n,.string y.v.s,.string y.name,af y.width,.slice y.A y.n y.c] 46);have hT:=(ht.later (ah w2 (.cells #[ag y.op,ag y.v.k,af y.v.n,.string y.v.s,.string y.name,af y.width,.slice y.A y.n y.c] 46))).more (B':=w.heap.size+1) TD;have hqx:w.heap.size+1<=w2.heap.size:=by have:=d2.size;omega
 generalize w2.alloc _=W at*;generalize w2.heap.size=qx at*;have HD:=aa hD;have HX:=aa hX;have Tf:=aa hQ;have HT:=aa hT;clear hD hX hQ hT ht d2 h0 hb HQ HH;go_loopg [] 0 (λ k wr=>wr=W);case atStart=>rfl
 case round=>
  obtain rfl:_=W:=hrel;obtain⟨tk,pl,bd,hpl,aqj,anx,uo,cj,hg,Kf,uT,hp⟩:=HD.ae.at_.wA;obtain⟨r',nd⟩:=hg _ rfl;obtain rfl:u=tk.w:=by injection nd
  have Ew:bd < 0:=by simpa [ck.iy] using cj
  have HP:=aa hp;have c2:=hp.c2;have hbz:=HBZ.ae tk;rw[VK.ae] at hbz;clear hpl hg cj uo hp nd;open zbV in exact ZaE):p:=h
theorem sK(lv:Nat)(hlv:lv=0\/lv=1\/lv=4\/lv=5)   (hop:kU lv u=0)(H:cZ ((lv:Int)+1) l t (u::r)):cZ lv l t (u::r):=by intro ρ w h;obtain⟨z,hz⟩:∃z:Int,z=lv:=⟨_,rfl⟩;rw[<- hz] at H ⊢;open zeB in exact Zcs
theorem Cp{t:Wd} (hk:t.k=1)(hr:td t.s=false)(ρ:dy)(w:rQ)(h:ρ.at w (.good (t::r)) false):
  ar 137 #[ρ.ptr] w λ e w'=>∃n:t_,n=⟨t.s.toArray⟩/\e=.returned (.string n)/\eN ρ w w' (.good r) false:=by refine(acO ρ w _ false h).mono ?_;rintro e w' ⟨x,rfl,d,hg⟩;rw[sH,if_pos ⟨hk,hr⟩] at d;simp only[kz,vX,hk,hr,and_self,if_true] at hg;exact⟨x,hg,rfl,d⟩
theorem zdZ.KaP(h:p:=by
 have jb:=HK.ae;have hst:=dy.at.step HF.ae (show tk.w.k≠0 by omega);have HST:=aa hst;have HX:=xW.ae.far (p:=⟨ρ.g,1,none⟩) Tab (af ((ρ.n:Int) - r.length));obtain⟨s0,s1,s2,s3,_⟩:=bO HX;clear HX hst;go_wp2_with (go_at_call 208;refine(FU ⟨2,tk.w.n,⟨#[]⟩⟩ _).mono ?_;rintro e w4 ⟨rfl,b4⟩;have Tg:=(nc.ae.far (p:=⟨ρ.g,1,none⟩) Tab (af ((ρ.n:Int) - r.length))).later b4;have aiq:=aa Tg;have B4:=aa b4;obtain⟨z0,z1,z2,z3,z4,z5,z6⟩:=ey Tg;obtain⟨y0,y1,y2,y3,y4,y5,y6⟩:=bS Tg;clear Tg b4);have HP:=ez aiq.ae ⟨1,⟨2,tk.w.n,⟨#[]⟩⟩,⟨#[]⟩,0,none,0,0⟩;have HR:=dw HP;unfold dY at HR;obtain⟨r0,r1,r2,r3,r4,r5,r6⟩:=HR;refine bodyPost_ret (v:=mD ⟨1,⟨2,tk.w.n,⟨#[]⟩⟩,⟨#[]⟩,0,none,0,0⟩) Zcy rfl ?_
 ·exact Ob.put (t:=tq ⟨2,tk.w.n,ByteArray.empty⟩) ej (Nat.le_refl _) ((HD.ae.trans HST.ae).later B4.ae) (IM _ _ _)):p:=h
theorem zap.Kaa(h:p:=by
 have e1:(pl:Int)+1=(ρ.n:Int) - r.length:=by rw[hpl];simp only[ck.left,length_cons] at*;omega
 open zdZ in exact ZbT):p:=h
theorem F3{t:Wd} (jb:t.k=2):mm (t::r) (tq ⟨2,t.n,ByteArray.empty⟩) r:=by intro ρ w h;have HK:=aa jb;clear jb;open zap in exact Zaf
theorem zha.Kb2(h:p:=by
 refine(oh ρ _ _ false d1.at_ ⟨#[102,97,108,115,101]⟩ (show(ck.good (tk.w::r)).head (⟨#[102,97,108,115,101]⟩:t_).data.toList=true from H2.ae)).mono ?_;rintro e w2 ⟨rfl,d2⟩;go_wp2_with fail;refine(FU ⟨1,0,⟨#[]⟩⟩ _).mono ?_;rintro e w9 ⟨rfl,b4⟩;have Tk:=((d2.blk ((d1.blk (nc.ae) TD)) TD)).later b4;have aiq:=aa Tk;have B4:=aa b4;obtain⟨z0,z1,z2,z3,z4,z5,z6⟩:=ey Tk;obtain⟨y0,y1,y2,y3,y4,y5,y6⟩:=bS Tk;have D1:=aa d1;have D2:=aa d2;clear Tk b4;go_wp2_with fail;have HP:=ez aiq.ae ⟨1,⟨1,0,⟨#[]⟩⟩,⟨#[]⟩,0,none,0,0⟩;have HR:=dw HP;unfold dY at HR;obtain⟨r0,r1,r2,r3,r4,r5,r6⟩:=HR;refine bodyPost_ret (v:=mD ⟨1,⟨1,0,⟨#[]⟩⟩,⟨#[]⟩,0,none,0,0⟩) Zcy rfl ?_
 ·exact Ob.put (t:=tq ⟨1,0,ByteArray.empty⟩) ej (Nat.le_refl _) ((((HD.ae).trans D1.ae).trans D2.ae).later B4.ae) (IM _ _ _)):p:=h
theorem zbm.Kai(h:p:=by open zha in exact Zfy):p:=h
theorem zaq.Kaa(h:p:=by
 have e1:(pl:Int)+1=(ρ.n:Int) - r.length:=by rw[hpl];simp only[ck.left,length_cons] at*;omega
 open zbm in exact Zax):p:=h
theorem PZ{t:Wd} (hg:Plain t)(HX:jg Pz t=false)(h2:jg AG t=true):mm (t::r) (tq ⟨1,0,ByteArray.empty⟩) r:=by intro ρ w h;have wC:=aa hg;clear hg;have H1:=aa HX;have H2:=aa h2;clear HX h2;open zaq in exact Zaf
theorem zed.KaT(h:p:=by
 have Tk:=Ki.ae;have hqb:=Tk.lt;obtain⟨z0,z1,z2,z3,z4,z5,z6⟩:=ey Tk;obtain⟨y0,y1,y2,y3,y4,y5,y6⟩:=bS Tk;clear Tk;go_wp2_with fail;have HP:=ez Ki.ae ⟨2,uj,n,0,none,0,0⟩;have HR:=dw HP;unfold dY uj at HR;obtain⟨r0,r1,r2,r3,r4,r5,r6⟩:=HR;refine bodyPost_ret (v:=mD ⟨2,uj,n,0,none,0,0⟩) Zcy rfl ?_
 ·rw[<- HN.ae];exact Ob.put (t:=ui n) ej (Nat.le_refl _) XY.ae (BZ _ _ _)):p:=h
theorem zdS.KaN(h:p:=by rw[show(ck.good r).head (⟨#[40]⟩:t_).data.toList=false from HC.ae] at hwd;open zed in exact Zce):p:=h
theorem zhb.Kb2(h:p:=by refine(cw ρ _ _ false d1.at_ ⟨#[102,97,108,115,101]⟩ (show(ck.good (tk.w::r)).head (⟨#[102,97,108,115,101]⟩:t_).data.toList=false from H2.ae)).mono ?_;rintro e w2 ⟨rfl,d2⟩;go_wp2_with fail;refine(cw ρ _ _ false d2.at_ ⟨#[110,117,108,108]⟩ (show(ck.good (tk.w::r)).head (⟨#[110,117,108,108]⟩:t_).data.toList=false from H3.ae)).mono ?_;rintro e w3 ⟨rfl,d3⟩;go_wp2_with fail;refine(cw ρ _ _ false d3.at_ ⟨#[40]⟩ (show(ck.good (tk.w::r)).head (⟨#[40]⟩:t_).data.toList=false from H4.ae)).mono ?_;open zdS in exact ZbO):p:=h
theorem zbn.Kai(h:p:=by open zhb in exact Zfy):p:=h
theorem zar.Kaa(h:p:=by
 have e1:(pl:Int)+1=(ρ.n:Int) - r.length:=by rw[hpl];simp only[ck.left,length_cons] at*;omega
 open zbn in exact Zax):p:=h
theorem zg0.KbY(h:p:=by clear jb;open zar in exact Zaf):p:=h
theorem LU{t:Wd} (jb:LS t)(AK:t.k=1)(SZ:td t.s=false)(hc:dK eL r=false):mm (t::r) (ui ⟨t.s.toArray⟩) r:=by intro ρ w h;have nI:=aa AK;have je:=aa SZ;clear AK SZ;have HC:=aa hc;clear hc;open zg0 in exact Zfj
def anz (ρ:dy)(x:Tr)(r:dH)(y:Ex)(w w':rQ):Prop:=Tr.at_ w' (ju w.heap.size w') x y/\eN ρ w w' (.good r) false
theorem mn{s:w_} {t:Wd} (ht:jg s t=true)(ρ:dy)(w:rQ)(h:ρ.at w (.good (t::r)) false)(b:Nat)(hb:aB w b 9 (bL [s]))(hbg:ρ.g≠b):
  ar 138 #[ρ.ptr,aL b 1 1] w (Ci ρ w (.good r) false):=by have:=VI ρ w (.good (t::r)) false h [s] b 1 rfl hb hbg TD;rw[Ch,ry (show(ck.good (t::r)).head s=true from ht)] at this;exact this
theorem LV{t:Wd} (hk:t.k=2)(ρ:dy)(w:rQ)(h:ρ.at w (.good (t::r)) false):
  ar 181 #[ρ.ptr] w λ e w'=>∃x:Int,x=t.n/\0<=x/\x<=9223372036854775807/\e=.returned (af x)/\eN ρ w w' (.good r) false:=by refine(VH ρ w _ false h).mono ?_;rintro e w' ⟨x,hx0,hx1,rfl,d,hg⟩;simp only[kz,IK,hk,if_true] at hg;simp only[dv,IK,hk,if_true] at d;exact⟨x,hg,hx0,hx1,rfl,d⟩
variable{ob cb:Wd}{x:Tr}
theorem za4.Kaf(h:p:=by
 have HP:=ez G5.ae ⟨o,uj,⟨#[]⟩,0,A,1,c⟩;have HR:=dw HP;unfold dY uj at HR;obtain⟨r0,r1,r2,r3,r4,r5,r6⟩:=HR;refine bodyPost_ret (v:=mD ⟨o,uj,⟨#[]⟩,0,A,1,c⟩) Zcy rfl ?_
 ·refine Ob.put (t:=AE o [x]) ej (Nat.le_refl _) DC.ae ?_;unfold AE Tr.at_;exact Zc2):p:=h
theorem zbu.Kak(h:p:=by
 obtain⟨n22,n20,n27,n28⟩:=HC.ae;clear HC;go_wp2_with fail;have HX0:=aB.new zq 46 #[ag o,ag 0,af 0,au,au,af 0,ay];have F7:=ah zq (.cells #[ag o,ag 0,af 0,au,au,af 0,ay] 46);have pw:=aa (LZ.ae.later F7);have uu:=aa (xY.ae.later F7);have afS:(zq.alloc (.cells #[ag o,ag 0,af 0,au,au,af 0,ay] 46)).heap.size=zq.heap.size+1:=by simp
 have HX:=aa HX0;clear HX0 F7 LZ xY c4;generalize zq.alloc _=VM at*;generalize zq.heap.size=qx at*;open za4 in exact Zar):p:=h
theorem zgA.KbN(h:p:=by
 cases he:(n.data.toList==y)
 ·exact Zbx
 ·open zbu in exact Zaz):p:=h
theorem zbr.Kaj(h:p:=by
 go_loopw [8] (λ u wr=>∃k:Nat,k<=8/\u=af k/\aj W8 wr/\mg n=(PE.drop k).lookup n.data.toList) (λ u _=>8 - (intOf u).toNat);case atStart=>exact Zf1
 case round=>
  obtain⟨k,hi,rfl,hP,hlk⟩:=hrel;have Eh:=aa hlk;have iz:=aa hP;clear hlk hP;by_cases hlt:k < 8
  ·open zgA in exact ZeD
  ·exact Zdt):p:=h
theorem zdT.KaN(h:p:=by rw[show(ck.good (ob::l)).head (⟨#[40]⟩:t_).data.toList=true from LW.ae] at hwd;open zbr in exact Zay):p:=h
theorem zbo.Kai(h:p:=by refine(cw ρ _ _ false HF.ae ⟨#[116,114,117,101]⟩ (show(ck.good (tk.w::ob::l)).head (⟨#[116,114,117,101]⟩:t_).data.toList=false from H1.ae)).mono ?_;rintro e w1 ⟨rfl,d1⟩;go_wp2_with fail;refine(cw ρ _ _ false d1.at_ ⟨#[102,97,108,115,101]⟩ (show(ck.good (tk.w::ob::l)).head (⟨#[102,97,108,115,101]⟩:t_).data.toList=false from H2.ae)).mono ?_;rintro e w2 ⟨rfl,d2⟩;go_wp2_with fail;refine(cw ρ _ _ false d2.at_ ⟨#[110,117,108,108]⟩ (show(ck.good (tk.w::ob::l)).head (⟨#[110,117,108,108]⟩:t_).data.toList=false from H3.ae)).mono ?_;rintro e w3 ⟨rfl,d3⟩;go_wp2_with fail;refine(cw ρ _ _ false d3.at_ ⟨#[40]⟩ (show(ck.good (tk.w::ob::l)).head (⟨#[40]⟩:t_).data.toList=false from H4.ae)).mono ?_;open zdT in exact ZbO):p:=h
theorem zas.Kaa(h:p:=by
 have e1:(pl:Int)+1=(ρ.n:Int) - (ob::l).length:=by rw[hpl];simp only[ck.left,length_cons] at*;omega
 open zbo in exact Zax):p:=h
theorem zg1.KbY(h:p:=by clear jb;open zas in exact Zaf):p:=h
theorem F5{t:Wd}  (OP:Int)(hc:(OP==22)=false/\(OP==20)=false/\(OP==27)=false/\(OP==28)=false)(jb:LS t)(AK:t.k=1)(SZ:td t.s=false)(qK:jg eL ob=true)(hfn:mg ⟨t.s.toArray⟩=some OP)(H:cZ 0 l x (cb::r))(hcb:jg eF cb=true):mm (t::ob::l) (AE OP [x]) r:=by intro ρ w h;have nI:=aa AK;have je:=aa SZ;have LW:=aa qK;have HFN:=aa hfn;have HH:=aa H;have HCB:=aa hcb;clear AK SZ qK hfn H hcb;have HC:=aa hc;clear hc;open zg1 in exact Zfj
variable{sr:Wd}
theorem zg4.KbZ(h:p:=by
 have XX:=uu.ae.lt;go_wp2_with fail;have Yy:=pw.ae.at_.later (ah _ (.cells (bL [eF]) 9));refine(mn HO.ae ρ _ Yy Tl.heap.size (aB.new _ _ _) TD).mono ?_;rintro e w12 ⟨rfl,d12⟩;have Qa:=ah Tl (.cells (bL [eF]) 9);have Tk:=(uu.ae.later Qa).grown d12.grown Tab;have jR:=aa Tk;obtain⟨z0,z1,z2,z3,z4,z5,z6⟩:=ey Tk;obtain⟨y0,y1,y2,y3,y4,y5,y6⟩:=bS Tk;have DC:=aa ((pw.ae.later Qa).trans d12);clear Tk d12 Qa;go_wp2_with fail;have HP:=ez jR.ae ⟨21,uj,⟨#[]⟩,0,none,0,0⟩;have HR:=dw HP;unfold dY uj at HR;obtain⟨r0,r1,r2,r3,r4,r5,r6⟩:=HR;refine bodyPost_ret (v:=mD ⟨21,uj,⟨#[]⟩,0,none,0,0⟩) Zcy rfl ?_
 ·exact Ob.put (t:=AE 21 []) ej (Nat.le_refl _) DC.ae (aic _ _ 21)):p:=h
theorem zbv.Kak(h:p:=by
 obtain rfl:=HK.ae;clear HK;go_wp2_with fail;have HX0:=aB.new zq 46 #[ag 22,ag 0,af 0,au,au,af 0,ay];have F7:=ah zq (.cells #[ag 22,ag 0,af 0,au,au,af 0,ay] 46);have pw:=aa (LZ.ae.later F7);have uu:=aa (xY.ae.later F7);have afS:(zq.alloc (.cells #[ag 22,ag 0,af 0,au,au,af 0,ay] 46)).heap.size=zq.heap.size+1:=by simp
 have HX:=aa HX0;clear HX0 F7 LZ xY c4;generalize zq.alloc _=VM at*;generalize zq.heap.size=qx at*;refine(oh ρ _ _ false pw.ae.at_ ⟨#[42]⟩ HS.ae).mono ?_;rintro e Tl ⟨rfl,d13⟩;open zg4 in exact Zfk):p:=h
theorem zgB.KbN(h:p:=by
 cases he:(n.data.toList==y)
 ·exact Zbx
 ·open zbv in exact Zaz):p:=h
theorem zbs.Kaj(h:p:=by
 go_loopw [8] (λ u wr=>∃k:Nat,k<=8/\u=af k/\aj W8 wr/\mg n=(PE.drop k).lookup n.data.toList) (λ u _=>8 - (intOf u).toNat);case atStart=>exact Zf1
 case round=>
  obtain⟨k,hi,rfl,hP,hlk⟩:=hrel;have Eh:=aa hlk;have iz:=aa hP;clear hlk hP;by_cases hlt:k < 8
  ·open zgB in exact ZeD
  ·exact Zdt):p:=h
theorem zdU.KaN(h:p:=by rw[show(ck.good (ob::sr::cb::r)).head (⟨#[40]⟩:t_).data.toList=true from LW.ae] at hwd;open zbs in exact Zay):p:=h
theorem zbp.Kai(h:p:=by refine(cw ρ _ _ false HF.ae ⟨#[116,114,117,101]⟩ (show(ck.good (tk.w::ob::sr::cb::r)).head (⟨#[116,114,117,101]⟩:t_).data.toList=false from H1.ae)).mono ?_;rintro e w1 ⟨rfl,d1⟩;go_wp2_with fail;refine(cw ρ _ _ false d1.at_ ⟨#[102,97,108,115,101]⟩ (show(ck.good (tk.w::ob::sr::cb::r)).head (⟨#[102,97,108,115,101]⟩:t_).data.toList=false from H2.ae)).mono ?_;rintro e w2 ⟨rfl,d2⟩;go_wp2_with fail;refine(cw ρ _ _ false d2.at_ ⟨#[110,117,108,108]⟩ (show(ck.good (tk.w::ob::sr::cb::r)).head (⟨#[110,117,108,108]⟩:t_).data.toList=false from H3.ae)).mono ?_;rintro e w3 ⟨rfl,d3⟩;go_wp2_with fail;refine(cw ρ _ _ false d3.at_ ⟨#[40]⟩ (show(ck.good (tk.w::ob::sr::cb::r)).head (⟨#[40]⟩:t_).data.toList=false from H4.ae)).mono ?_;open zdU in exact ZbO):p:=h
theorem zat.Kaa(h:p:=by
 have e1:(pl:Int)+1=(ρ.n:Int) - (ob::sr::cb::r).length:=by rw[hpl];simp only[ck.left,length_cons] at*;omega
 open zbp in exact Zax):p:=h
theorem zg2.KbY(h:p:=by clear jb;open zat in exact Zaf):p:=h
theorem zhs.Kca(h:p:=by clear AK SZ qK hfn hw hz hS;open zg2 in exact Zfj):p:=h
theorem VL{t:Wd} (OP:Int)(hz:OP=22)(jb:LS t)(AK:t.k=1)(SZ:td t.s=false)(qK:jg eL ob=true)(hfn:mg ⟨t.s.toArray⟩=some OP)(hS:jg xP sr=true)(hw:jg eF cb=true):mm (t::ob::sr::cb::r) (AE 21 []) r:=by intro ρ w h;open zhs in exact Zga
variable{nb cm:Wd}
theorem za5.Kaf(h:p:=by
 have HP:=ez G5.ae ⟨20,uj,⟨#[]⟩,kk,A,1,c⟩;have HR:=dw HP;unfold dY uj at HR;obtain⟨r0,r1,r2,r3,r4,r5,r6⟩:=HR;refine bodyPost_ret (v:=mD ⟨20,uj,⟨#[]⟩,kk,A,1,c⟩) Zcy rfl ?_
 ·rw[<- HKN.ae];refine Ob.put (t:=.mk 20 jQ ByteArray.empty kk [x]) ej (Nat.le_refl _) DC.ae ?_;unfold Tr.at_;exact Zc2):p:=h
theorem zg5.KbZ(h:p:=by
 have auJ:=HX.ae.frozen 5;obtain⟨x0,x1,x2,x3,x4,x5,x6⟩:=bS HX.ae;have ayF:=HX.ae.lt;have HXk:=HX.ae.aT 5 (af kk);simp only[Uac] at HXk;have HQk:=uu.ae.far (p:=⟨qx,5,none⟩) Tab (af kk);have DK:=pw.ae.far ej (show w.heap.size<=qx by omega) 5 (af kk);have kN:=aa HXk;have zl:=aa HQk;have Kj:=aa DK;clear HX uu pw HXk HQk DK;go_wp2_with fail;clear x0 x1 x2 x3 x4 x5 x6 auJ;have Kd:aB ((Tl.setCell ⟨qx,5,none⟩ (af kk)).alloc (.cells (bL [dN]) 9)) Tl.heap.size 9 (bL [dN]):=by have:=aB.new (Tl.setCell ⟨qx,5,none⟩ (af kk)) 9 (bL [dN]);rwa [show(Tl.setCell ⟨qx,5,none⟩ (af kk)).heap.size=Tl.heap.size by simp[World.setCell]] at this
 have Yy:=Kj.ae.at_.later (ah _ (.cells (bL [dN]) 9));refine(mn HCM.ae ρ _ Yy Tl.heap.size Kd TD).mono ?_;rintro e VM ⟨rfl,d14⟩;have bcm:=ah (Tl.setCell ⟨qx,5,none⟩ (af kk)) (.cells (bL [dN]) 9);have HX:=aa ((kN.ae.later bcm).grown d14.grown Tab);have uu:=aa ((zl.ae.later bcm).grown d14.grown Tab);have pw:=aa ((Kj.ae.later bcm).trans d14);have anO:qx+1<=VM.heap.size:=HX.ae.lt;clear kN zl Kj d14 bcm Yy Kd;go_wp2_with fail;open za5 in exact Zar):p:=h
theorem zbw.Kak(h:p:=by
 obtain rfl:=HK.ae;clear HK;go_wp2_with fail;have HX0:=aB.new zq 46 #[ag 20,ag 0,af 0,au,au,af 0,ay];have F7:=ah zq (.cells #[ag 20,ag 0,af 0,au,au,af 0,ay] 46);have pw:=aa (LZ.ae.later F7);have uu:=aa (xY.ae.later F7);have afS:(zq.alloc (.cells #[ag 20,ag 0,af 0,au,au,af 0,ay] 46)).heap.size=zq.heap.size+1:=by simp
 have HX:=aa HX0;clear HX0 F7 LZ xY c4;generalize zq.alloc _=W11 at*;generalize zq.heap.size=qx at*;refine(LV IY.ae ρ _ pw.ae.at_).mono ?_;rintro e Tl ⟨kk,ua,Zg,AK,rfl,d13⟩;have HKN:=aa ua;clear ua;open zg5 in exact Zfk):p:=h
theorem zgC.KbN(h:p:=by
 cases he:(n.data.toList==y)
 ·exact Zbx
 ·open zbw in exact Zaz):p:=h
theorem zbt.Kaj(h:p:=by
 go_loopw [8] (λ u wr=>∃k:Nat,k<=8/\u=af k/\aj W8 wr/\mg n=(PE.drop k).lookup n.data.toList) (λ u _=>8 - (intOf u).toNat);case atStart=>exact Zf1
 case round=>
  obtain⟨k,hi,rfl,hP,hlk⟩:=hrel;have Eh:=aa hlk;have iz:=aa hP;clear hlk hP;by_cases hlt:k < 8
  ·open zgC in exact ZeD
  ·exact Zdt):p:=h
theorem zdV.KaN(h:p:=by rw[show(ck.good (ob::nb::cm::l)).head (⟨#[40]⟩:t_).data.toList=true from LW.ae] at hwd;open zbt in exact Zay):p:=h
theorem zbq.Kai(h:p:=by refine(cw ρ _ _ false HF.ae ⟨#[116,114,117,101]⟩ (show(ck.good (tk.w::ob::nb::cm::l)).head (⟨#[116,114,117,101]⟩:t_).data.toList=false from H1.ae)).mono ?_;rintro e w1 ⟨rfl,d1⟩;go_wp2_with fail;refine(cw ρ _ _ false d1.at_ ⟨#[102,97,108,115,101]⟩ (show(ck.good (tk.w::ob::nb::cm::l)).head (⟨#[102,97,108,115,101]⟩:t_).data.toList=false from H2.ae)).mono ?_;rintro e w2 ⟨rfl,d2⟩;go_wp2_with fail;refine(cw ρ _ _ false d2.at_ ⟨#[110,117,108,108]⟩ (show(ck.good (tk.w::ob::nb::cm::l)).head (⟨#[110,117,108,108]⟩:t_).data.toList=false from H3.ae)).mono ?_;rintro e w3 ⟨rfl,d3⟩;go_wp2_with fail;refine(cw ρ _ _ false d3.at_ ⟨#[40]⟩ (show(ck.good (tk.w::ob::nb::cm::l)).head (⟨#[40]⟩:t_).data.toList=false from H4.ae)).mono ?_;open zdV in exact ZbO):p:=h
theorem zau.Kaa(h:p:=by
 have e1:(pl:Int)+1=(ρ.n:Int) - (ob::nb::cm::l).length:=by rw[hpl];simp only[ck.left,length_cons] at*;omega
 open zbq in exact Zax):p:=h
theorem zg3.KbY(h:p:=by clear jb;open zau in exact Zaf):p:=h
theorem Ma{t:Wd}  (OP:Int)(hop:OP=20)(jb:LS t)(AK:t.k=1)(SZ:td t.s=false)(qK:jg eL ob=true)(hfn:mg ⟨t.s.toArray⟩=some OP)(hk2:nb.k=2)(hcm:jg dN cm=true)(H:cZ 0 l x (cb::r))(hcb:jg eF cb=true):mm (t::ob::nb::cm::l) (.mk 20 jQ ByteArray.empty nb.n [x]) r:=by intro ρ w h;have nI:=aa AK;have je:=aa SZ;have LW:=aa qK;have HFN:=aa hfn;have HH:=aa H;have HCB:=aa hcb;have HK:=aa hop;have IY:=aa hk2;have HCM:=aa hcm;clear AK SZ qK hfn H hcb hop hk2 hcm;open zg3 in exact Zfj
structure AtC (ρ:dy) (w:rQ) (q qx:Nat) (wr:rQ) (l:dH) (t:Tr) (y:Ex):Prop where
 did:eN ρ w wr (.good l) false
 blk:aB wr qx 46 (bD y).toArray
 res:aB wr q 46 #[ag 0,ag 0,af 0,au,au,af 0,ay]
 tr:t.at_ wr (Bx (q+1) qx wr) y
variable{wr W2:rQ}{qx:Nat}
theorem AtC.more(A:AtC ρ w q qx wr l t y)(d:eN ρ wr W2 (.good l) false)(h1:ρ.g < q)(h2:q+1<=qx):AtC ρ w q qx W2 l t y:=
 ⟨A.did.trans d,d.blk A.blk TD,d.blk A.res TD,Tr.at_.keep (vY d.grown TD) _ _ A.tr⟩
structure AtD (ρ:dy) (w:rQ) (q qx:Nat) (W:rQ) (r:dH) (t:Tr) (y:Ex):Prop where
 did:eN ρ w W (.good r) false
 blk:aB W qx 46 (bD y).toArray
 res:aB W q 46 #[ag 0,ag 0,af 0,au,au,af 0,ay]
 tr:t.at_ W (ju (q+1) W) y
variable{Ws w3:rQ}{t' t2:Tr}{y' v2:Ex}{l0:dH}{bi:Int}
theorem AtC.round(ej:ρ.g < w.heap.size)(XX:q=w.heap.size)(hqq:q+1<=qx)(A:AtC ρ w q qx wr l0 t' y')(hW:aj wr W2)(hst:eN ρ W2 Ws (.good l) false)(d2:eN ρ Ws w3 (.good r) false)
  (ht2:t2.at_ w3 (ju Ws.heap.size w3) v2):
  AtD ρ w q qx (dY ((w3.alloc (uq v2)).alloc (Ac y' v2)) qx (opY bi (w3.heap.size+1) 2)) r (AE bi [t',t2]) (opY bi (w3.heap.size+1) 2):=by
 have hz1:=d2.size;have hz2:=hst.size;have hz3:=hW.size;have hqb:=A.blk.lt;have b12:aj w3 ((w3.alloc (uq v2)).alloc (Ac y' v2)):=ai.then (ah w3 _) (ah _ _);have hsz:((w3.alloc (uq v2)).alloc (Ac y' v2)).heap.size=w3.heap.size+2:=by simp
 have hN:aB ((w3.alloc (uq v2)).alloc (Ac y' v2)) (w3.heap.size+1) 46 (bD y'++bD v2).toArray:=by have:=aB.new (w3.alloc (uq v2)) 46 (bD y'++bD v2).toArray;rw[World.size_alloc] at this;exact this
 have hX:aB ((w3.alloc (uq v2)).alloc (Ac y' v2)) qx 46 (bD y').toArray:=(((A.blk.later hW).grown hst.grown Tab).grown d2.grown Tab).later b12;have hR:aB ((w3.alloc (uq v2)).alloc (Ac y' v2)) q 46 _:=(((A.res.later hW).grown hst.grown Tab).grown d2.grown Tab).later b12;have hD:eN ρ w ((w3.alloc (uq v2)).alloc (Ac y' v2)) (.good r) false:=(((A.did.later hW).trans hst).trans d2).later b12
 have hT:(AE bi [t',t2]).at_ ((w3.alloc (uq v2)).alloc (Ac y' v2)) (Bx (q+1) qx ((w3.alloc (uq v2)).alloc (Ac y' v2))) (opY bi (w3.heap.size+1) 2):=by
  refine aib bi hN ⟨by omega,by omega,by omega⟩ ?_ ?_
  ·exact Tr.at_.keep (BX b12) _ _ (Tr.at_.keep (vY d2.grown TD) _ _ (Tr.at_.keep (vY hst.grown TD) _ _ (Tr.at_.keep (BX hW) _ _ A.tr)))
  ·exact Tr.at_.keep (anf TD TD) _ _ (ht2.later b12)
 generalize (w3.alloc (uq v2)).alloc (Ac y' v2)=W5 at*;refine⟨hD.dY ej TD _,ez hX _,VJ hR TD _,?_⟩;exact Tr.at_.keep (PF (Nat.le_refl _)) _ _ (Tr.at_.keep (afN (S:=λ w=>Bx (q+1) qx w) (λ w i u=>B3 i u) _) _ _ hT)
theorem zhF.Kce(h:p:=by
 refine bodyPost_ret (v:=mD y) Zd3 rfl ?_
 ·exact Ob.put ej (Nat.le_refl _) (HA.ae.did.later hL) (Tr.at_.keep (PF (Nat.le_refl _)) _ _ (Tr.at_.keep (BX hL) _ _ HA.ae.tr))):p:=h
theorem zbW.Kap(h:p:=by have Tk:=HA.ae.res.later hL;have PY:=HA.ae.blk.later hL;have hqb:=Tk.lt;obtain⟨z0,z1,z2,z3,z4,z5,z6⟩:=ey Tk;obtain⟨y0,y1,y2,y3,y4,y5,y6⟩:=bS Tk;obtain⟨x0,x1,x2,x3,x4,x5,x6⟩:=dw PY;have jR:=aa Tk;open zhF in exact Zgg):p:=h
theorem zfg.Kbi(h:p:=by
 have e1:(ρ.n:Int) - (ck.good (tk.w::r)).left+1=(ρ.n:Int) - r.length:=by simp only[ck.left,length_cons];omega
 have Qb:=aa e1;have auN:=HA.ae.did.at_.left;clear hpl hg cj uo hp hr2 e1;open zbW in exact ZaE):p:=h
theorem zct.Kaw(h:p:=by
 go_loopg [] 0 (λ k wr=>wr=w1);case atStart=>rfl
 case round=>
  open zfg in exact Zdo):p:=h
theorem anQ(FV:dK acx (u::r)=false)(hop:kU 3 u=0)(H:cZ 4 l t (u::r)):cZ 3 l t (u::r):=by
 open zct in exact Za6
variable{l2:dH}
theorem zbX.Kap(h:p:=by
 obtain⟨ho1,ho2⟩:=ho;have e0:(o==0)=false:=by rw[beq_eq_false_iff_ne];omega
 have nX:=HA.ae.did.at_.later hL;obtain⟨q0,q1,q2,q3,f1,f2,f3⟩:=nX.facts;have e1:=Qb.ae;have hst:=dy.at.step nX Zg;have sZ:l2.length+1<=ρ.n:=by have:=nX.left;have e2:(ck.good (tk.w::l2)).left=l2.length+1:=rfl;omega
 clear nX q0 q2 q3 f2 f3;go_upto_region 23 with (first
  |(go_at_call 184;refine(H2 ρ _ hst.at_).mono ?_;rintro e Kx ⟨v2,rfl,ht2,d2⟩;unfold mD bD;have F:=AtC.round (bi:=o) ej rfl hqx HA.ae hL hst d2 ht2;have hz1:=d2.size;have hz2:=hst.size;have hz3:=hL.size;have B0:=((HA.ae.blk.later hL).grown hst.grown Tab).grown d2.grown Tab;have B1:=B0.alloc (.cells #[ag v2.op,ag v2.v.k,af v2.v.n,.string v2.v.s,.string v2.name,af v2.width,.slice v2.A v2.n v2.c] 46);have B2:=B1.alloc (.cells #[ag y.op,ag y.v.k,af y.v.n,.string y.v.s,.string y.name,af y.width,.slice y.A y.n y.c,ag v2.op,ag v2.v.k,af v2.v.n,.string v2.v.s,.string v2.name,af v2.width,.slice v2.A v2.n v2.c] 46);have N1:=aB.new Kx 46 (bD v2).toArray;have X1:=dw B1;have X2:=dw B2;have X3:=ey B2;have X4:=dw N1;unfold bD at X4;obtain⟨x0,x1,x2,x3,x4,x5,x6⟩:=X1;obtain⟨y0,y1,y2,y3,y4,y5,y6⟩:=X2;obtain⟨z0,z1,z2,z3,z4,z5,z6⟩:=X3;obtain⟨a0,a1,a2,a3,a4,a5,a6⟩:=X4;have HF:=aa F;clear B0 B1 B2 N1 F))
 clear x0 x1 x2 x3 x4 x5 x6 y0 y1 y2 y3 y4 y5 y6 z0 z1 z2 z3 z4 z5 z6 a0 a1 a2 a3 a4 a5 a6;have F:=HF.ae;clear HF;show Code.wp _ _ _ _ (dY ((Kx.alloc (uq v2)).alloc (Ac y v2)) qx (opY o (Kx.heap.size+1) 2));generalize dY ((Kx.alloc (uq v2)).alloc (Ac y v2)) qx (opY o (Kx.heap.size+1) 2)=W9 at*;generalize opY o (Kx.heap.size+1) 2=Y9 at*;obtain⟨x0,x1,x2,x3,x4,x5,x6⟩:=dw F.blk;obtain⟨z0,z1,z2,z3,z4,z5,z6⟩:=ey F.res;obtain⟨y0,y1,y2,y3,y4,y5,y6⟩:=bS F.res;have hqb:=F.res.lt;have HF:=aa F;clear F;go_wp2_with fail;have HP:=ez HF.ae.res Y9;have HR:=dw HP;unfold dY at HR;obtain⟨r0,r1,r2,r3,r4,r5,r6⟩:=HR;refine bodyPost_ret (v:=mD Y9) Zd3 rfl ?_
 ·exact Ob.put ej (Nat.le_refl _) HF.ae.did HF.ae.tr):p:=h
theorem zfh.Kbi(h:p:=by
 have e1:(ρ.n:Int) - (ck.good (tk.w::l2)).left+1=(ρ.n:Int) - l2.length:=by simp only[ck.left,length_cons];omega
 have Qb:=aa e1;have auN:=HA.ae.did.at_.left;clear hpl hg cj uo hp hr2 e1;open zbX in exact ZaE):p:=h
theorem zcu.Kaw(h:p:=by
 go_loopg [] 0 (λ k wr=>wr=w1);case atStart=>rfl
 case round=>
  open zfh in exact Zdo):p:=h
theorem auO(o:Int)(ho:5<=o/\o<=17)(Zg:u.k≠0)(FV:dK acx (u::l2)=false)(hop:kU 3 u=o)(H:cZ 4 l t (u::l2))(H2:cZ 4 l2 t2 r):cZ 3 l (AE o [t,t2]) r:=by
 open zcu in exact Za6
structure FW (u:Wd):Prop where
 b0:kU 0 u=0
 b1:kU 1 u=0
 b4:kU 4 u=0
 b5:kU 5 u=0
 is_:jg acx u=false
structure xZ (l:dH):Prop where
 no:dK ZU l=false
 mi:dK sB l=false
theorem G6(h:mm l t (u::r))(hb:xZ l)(hu:FW u):cZ 4 l t (u::r):=
 sK 4 (.inr (.inr (.inl rfl))) hu.b4 (sK 5 (.inr (.inr (.inr rfl))) hu.b5 (anv hb.mi (anw h)))
theorem up3(h:cZ 3 l t (u::r))(hb:xZ l)(hu:FW u):cZ 0 l t (u::r):=
 sK 0 (.inl rfl) hu.b0 (sK 1 (.inr (.inl rfl)) hu.b1 (anu hb.no h))
theorem Mb(h:mm l t (u::r))(hb:xZ l)(hu:FW u)(h3:kU 3 u=0):cZ 0 l t (u::r):=
 up3 (anQ hu.is_ h3 (G6 h hb hu)) hb hu
theorem anR{c:Wd} (o:Int)(ho:5<=o/\o<=17)(Zg:c.k≠0)(hc:FW c)(hop:kU 3 c=o)(h:mm l t (c::l2))(hb:xZ l)(h2:mm l2 t2 (u::r))(hb2:xZ l2)(hu:FW u):cZ 0 l (AE o [t,t2]) (u::r):=
 up3 (auO o ho Zg hc.is_ hop (G6 h hb hc) (G6 h2 hb2 hu)) hb hu
section
variable {s:w_} {σ:ck} {x:Tr}
end
section
variable {α:Type} {el:Ps α} {σ zh:ck} {acc:List α} {x:α}
end
def nQ (y:Sl):Value:=.slice y.A y.n y.c
def _root_.Go.Proofs.YtndgjggokjickaaGreatDoor.Sl.nil:Sl:=⟨none,0,0⟩
def El.sl(E:El α)(w:rQ)(S:Nat->Prop)(y:Sl)(l:List α):Prop:=E.lies w S y.A y.n l
theorem El.uv(E:El α)(w:rQ)(S:Nat->Prop):E.sl w S Sl.nil []:=E.A7 w S
variable{E:El α}{S':Nat->Prop}
theorem El.sl.keep{y:Sl} {l:List α}(h:E.sl w S y l)(hk:∀b,S b->(∀o,w'.cell? ⟨b,o,none⟩=w.cell? ⟨b,o,none⟩)/\S' b):E.sl w' S' y l:=El.lies.keep h hk
structure yj where
 items:Sl:=.nil
 bT:t_:=ByteArray.empty
 only:Bool:=false
 bF:Sl:=.nil
 group:Sl:=.nil
 having:Sl:=.nil
 order:Sl:=.nil
 dA:Sl:=.nil
def Mc (y:yj):wL:=[nQ y.items,.string y.bT,.bool y.only,nQ y.bF,nQ y.group,nQ y.having,nQ y.order,nQ y.dA]
def quV (y:yj):Value:=.agg (Mc y).toArray
structure Qu.at_ (w:rQ) (S:Nat->Prop) (q:Qu) (y:yj):Prop where
 items:rb.sl w S y.items q.items
 bT:y.bT=q.bT
 only:y.only=q.only
 bF:IL.sl w S y.bF q.bF
 group:IL.sl w S y.group q.group
 having:IL.sl w S y.having q.having
 order:sD.sl w S y.order q.order
 dA:SM.sl w S y.dA q.dA
theorem Qu.at_.keep{q:Qu} {y:yj}(hk:∀b,S b->(∀o,w'.cell? ⟨b,o,none⟩=w.cell? ⟨b,o,none⟩)/\S' b)(h:q.at_ w S y):q.at_ w' S' y:=
 ⟨h.items.keep hk,h.bT,h.only,h.bF.keep hk,h.group.keep hk,h.having.keep hk,h.order.keep hk,h.dA.keep hk⟩
theorem Qu.G7 (w:rQ)(S:Nat->Prop):Qu.at_ w S {} {}:=⟨rb.uv _ _,rfl,rfl,IL.uv _ _,IL.uv _ _,IL.uv _ _,sD.uv _ _,SM.uv _ _⟩
structure G8 where
 kind:Int:=0
 name:t_:=ByteArray.empty
 cols:Sl:=.nil
 time:t_:=ByteArray.empty
 every:Int:=0
 space:t_:=ByteArray.empty
 parts:Int:=0
 query:yj:= {}
 what:Int:=0
 of_:t_:=ByteArray.empty
 a:Int:=0
 b:Int:=0
 rows:Sl:=.nil
 ahZ:Sl:=.nil
 bF:Sl:=.nil
 bT:Val:=jQ
 eM:Val:=jQ
def G9 (v:Val):wL:=[ag v.k,af v.n,.string v.s]
def sL (y:G8):wL:=[ag y.kind,.string y.name,nQ y.cols,.string y.time,af y.every,.string y.space,af y.parts]++Mc y.query++ [ag y.what,.string y.of_,af y.a,af y.b,nQ y.rows,nQ y.ahZ,nQ y.bF]++G9 y.bT++G9 y.eM
def stV (y:G8):Value:=.agg (sL y).toArray
variable{G:Nat}
theorem H7(h:aB w G 46 (bD y).toArray)(hS:S G)(hx:x.at_ w S y):IL.sl w S ⟨some ⟨G,0,none⟩,1,1⟩ [x]:=
 ⟨rfl,[y],PH (f:=bD) rp (by show aB w G _ (bD y++ []).toArray;rw[append_nil];exact h) hS,.one hx⟩
def Tm (y:Ex×t_):wL:=bD y.1++ [.string y.2]
def itV (y:Ex×t_):Value:=.agg (Tm y).toArray
theorem dB{a b i:Value}(h:aB w q T #[a,b,c,d,e,f,g,i]):
  w.cell? ⟨q,0,none⟩=some a/\w.cell? ⟨q,1,none⟩=some b/\w.cell? ⟨q,2,none⟩=some c/\w.cell? ⟨q,3,none⟩=some d/\w.cell? ⟨q,4,none⟩=some e/\w.cell? ⟨q,5,none⟩=some f/\w.cell? ⟨q,6,none⟩=some g/\w.cell? ⟨q,7,none⟩=some i:=
 ⟨h.cell 0,h.cell 1,h.cell 2,h.cell 3,h.cell 4,h.cell 5,h.cell 6,h.cell 7⟩
theorem lD(h:aB w q T cs):
  w.frozen? ⟨q,0,none⟩=false/\w.frozen? ⟨q,1,none⟩=false/\w.frozen? ⟨q,2,none⟩=false/\w.frozen? ⟨q,3,none⟩=false/\w.frozen? ⟨q,4,none⟩=false/\w.frozen? ⟨q,5,none⟩=false/\w.frozen? ⟨q,6,none⟩=false/\w.frozen? ⟨q,7,none⟩=false:=
 ⟨h.frozen 0,h.frozen 1,h.frozen 2,h.frozen 3,h.frozen 4,h.frozen 5,h.frozen 6,h.frozen 7⟩
def uw (w:rQ)(q:Nat)(y:Ex)(v:Value):rQ:=(dY w q y).setCell ⟨q,7,none⟩ v
theorem eN.uw(h:eN ρ W w σ big)(hW:ρ.g < W.heap.size)(hq:W.heap.size<=q)(y:Ex)(v:Value):eN ρ W (uw w q y v) σ big:=(h.dY hW hq y).far hW hq 7 v
theorem Tr.at_.uw(h:t.at_ w (ju B w) y)(hq:q < B)(z:Ex)(v:Value):t.at_ (uw w q z v) (ju B (Go.Proofs.YtndgjggokjickaaGreatDoor.R.uw w q z v)) y:=(h.dY hq z).set hq 7 v
theorem Md{a b i:Value}(h:aB w q T #[a,b,c,d,e,f,g,i])(y:Ex)(v:Value):aB (uw w q y v) q T (bD y++ [v]).toArray:=by have:=((((((((h.aT 0 (ag y.op)).aT 1 (ag y.v.k)).aT 2 (af y.v.n)).aT 3 (.string y.v.s)).aT 4 (.string y.name)).aT 5 (af y.width)).aT 6 (.slice y.A y.n y.c)).aT 7 v);exact ZdC
def itZ:Obj:=.cells #[ag 0,ag 0,af 0,au,au,af 0,ay,au] 48
def kW:List Nat->Nat
 | []=>0
 | a::l=>max a (kW l)
theorem zr:∀(l:List Nat) (a:Nat),kW (l++ [a])=max (kW l) a
 | [],a=>by simp[kW]
 | b::l,a=>by simp only[cons_append,kW,zr l a];omega
theorem VN{l:List Nat} {i d:Nat}(h:l[i]?=some d):kW (l.take (i+1))=max (kW (l.take i)) d:=by rw[take_add_one,h];exact zr _ _
theorem Me:∀ {l:List Nat} {d:Nat},d∈l->d<=kW l
 | a::l,d,h=>by
   rcases List.mem_cons.1 h with rfl | h
   ·simp only[kW];omega
   ·have:=Me h;simp only[kW];omega
theorem wD:∀(l:List Nat) (i:Nat),kW (l.take i)<=kW l
 | [],i=>by simp[kW]
 | a::l,0=>by simp[kW]
 | a::l,i+1=>by have:=wD l i;simp only[take_succ_cons,kW];omega
theorem zt:∀ts:List Tr,Tr.iP ts=kW (ts.map Tr.depth)
 | []=>by simp[Tr.iP,kW]
 | t::ts=>by simp[Tr.iP,kW,zt ts]
def Tn (f:FuncId)(w:rQ)(y:Ex)(d:Nat):Prop:=∀W,aj w W->ar f #[mD y] W λ e w'=>e=.returned (af d)/\aj W w'
theorem Mf (w:rQ)(y:Ex)(ys:List Ex)(ds:List Nat)(S:Nat->Prop)(hS:∀b,S b->b < w.heap.size)(hn:y.n=ys.length)(hA:RL bD 7 w S y.A ys)(hd:ds.length=ys.length)(hD:∀(k:Nat) x d,ys[k]?=some x->ds[k]?=some d->Tn 89 w x d)(hm:kW ds<=1000000)(hl:ys.length<=1000000000):Tn 89 w y (kW ds+1):=by
 intro W Kx;obtain⟨Kc,yv,lj,ir,yA,yn,yc⟩:=y;have hn:yn=ys.length:=hn;subst hn;have HD:=aa hD;have HM:=aa hm;have HDL:=aa hd;have HA:=aa hA;clear hD hm hd hA;unfold mD bD;have HX:=aB.new W 46 #[ag Kc,ag yv.k,af yv.n,.string yv.s,.string lj,af ir,.slice yA ys.length yc];have hb:=ah W (.cells #[ag Kc,ag yv.k,af yv.n,.string yv.s,.string lj,af ir,.slice yA ys.length yc] 46);go_enter Tryz.func89,Tryz.ntmps89;go_wp2_with fail;generalize W.alloc _=W1 at*;have iz:=aa hb;have HW:=aa Kx;clear hb;go_loopw [3,4] (λ m iv wr=>∃k:Nat,k<=ys.length/\iv=af k/\m=af (kW (ds.take k))/\aj W1 wr) (λ _ iv _=>ys.length - (intOf iv).toNat);case atStart=>exact Zf0
 case round=>
  obtain⟨k,hi,rfl,rfl,hW⟩:=hrel;have x6:=(HX.later hW).cell 6;simp only[Uaa] at x6;have EB:=wD ds k;have hmm:=HM.ae;by_cases hlt:k < ys.length
  ·obtain⟨x,hx⟩:∃x,ys[k]?=some x:=⟨_,getElem?_eq_getElem hlt⟩;obtain⟨d,hdd⟩:∃d,ds[k]?=some d:=⟨_,getElem?_eq_getElem (by rw[HDL.ae];exact hlt)⟩;have hDx:=HD.ae k x d hx hdd;have hdm:=Me (mem_of_getElem? hdd);have HMT:=aa (VN hdd);have hwr:aj w wr:=Kx.trans ((ai.then iz.ae hW).mono Kx.size);rcases HA.ae with h0 |⟨b,off,hAe,hSb,hc⟩
   ·subst h0;simp at hlt
   have z:=λ j u hu=>(hwr.cell (p:=⟨b,off+k*7+j,none⟩) (hS b hSb)).trans (hc k x j u hx hu)
   have k0:=z 0 _ rfl;have k1:=z 1 _ rfl;have k2:=z 2 _ rfl;have k3:=z 3 _ rfl;have k4:=z 4 _ rfl;have k5:=z 5 _ rfl;have k6:=z 6 _ rfl;simp only[Nat.add_zero] at k0;clear hx hdd z hc;subst hAe;go_wp2_with fail;refine(hDx wr hwr).mono ?_;rintro e w' ⟨rfl,b'⟩;go_wp2_with fail;go_roundw;case rel=>refine⟨k+1,by omega,by go_num,?_,hW.trans (b'.mono hW.size)⟩;first | rw[HMT.ae,show(max ((kW (ds.take k):Nat):Int) (d:Int))=((max (kW (ds.take k)) d:Nat):Int) by omega] |(rw[HMT.ae];congr 1;split <;> omega)
   case measure=>exact ZaU
  ·obtain rfl:k=ys.length:=by omega
   have lT:ds.take ys.length=ds:=take_of_length_le (Nat.le_of_eq HDL.ae);rw[lT] at EB;simp only[lT];go_wp2_with fail;go_ret;exact⟨mX TD,ai.then iz.ae hW⟩
mutual
def Tr.thin:Tr->Prop
 | .mk op v name width args=>args.length<=1000000000/\Tr.zu args
def Tr.zu:List Tr->Prop
 | []=>True
 | t::ts=>t.thin/\Tr.zu ts
end
mutual
theorem Tr.anU {w:rQ} {S:Nat->Prop}(hS:∀b,S b->b < w.heap.size):∀(t:Tr) (y:Ex),t.at_ w S y->t.thin->t.depth<=1000000->Tn 89 w y t.depth
 | .mk op v name width args,y,h,ht,hd=>by unfold Tr.at_ at h;obtain⟨_,_,_,_,hn,ys,hr,ha⟩:=h;unfold Tr.thin at ht;simp only[Tr.depth] at hd ⊢;have hl:=Tr.aM.length ha;rw[zt] at hd ⊢;exact Mf w y ys (args.map Tr.depth) S hS (by rw[hn,hl]) hr (by simp[hl]) (Tr.afU hS args ys ha ht.2 TD) TD (by rw[hl];exact ht.1)
theorem Tr.afU {w:rQ} {S:Nat->Prop}(hS:∀b,S b->b < w.heap.size):∀(ts:List Tr) (ys:List Ex),Tr.aM w S ts ys->Tr.zu ts->kW (ts.map Tr.depth)<=1000000->∀(i:Nat) x d,ys[i]?=some x->(ts.map Tr.depth)[i]?=some d->Tn 89 w x d
 | [],ys,h,_,_,i,x,d,hx,hd=>by simp at hd
 | t::ts,ys,h,ht,hm,i,x,d,hx,hd=>by
   unfold Tr.aM at h;obtain⟨y,ys',rfl,h1,h2⟩:=h;unfold Tr.zu at ht;simp only[map_cons,kW] at hm
   match i,hx,hd with
   | 0,hx,hd=>simp at hx hd;subst hx hd;exact Tr.anU hS t y h1 ht.1 TD
   | i+1,hx,hd=>exact Tr.afU hS ts ys' h2 ht.2 TD i x d (by simpa using hx) (by simpa using hd)
end
theorem acR{s:t_} {l:List qX}(h:zY s.data.toList=.ok l) (hs:s.size<=4294967280):
  ar 85 #[.string s] w λ e w'=>∃A c,e=.returned (.tuple #[.slice A l.length c,af 0,af 0])/\LO w' w.heap.size (.slice A l.length c) l/\aj w w':=by refine(E4 s w hs).mono ?_;intro e w' hp;unfold wk at hp;rw[h] at hp;obtain⟨v,rfl,ho,hb⟩:=hp;obtain⟨A,c,rfl⟩:=ho.form;exact⟨A,c,rfl,ho,hb⟩
variable{P:Program}
theorem zdl.KaG(h:p:=by exact⟨v',w',hr,ho,ha,h4⟩):p:=h
theorem Af{f:α->wL} {e:TypeId}   {lv:Value} {l:List α} {y:α}  (t ty:TypeId)(z:Value)(bytes:Nat)(ht:P.underlying t=some (.slice e))(jB:(P.info? e).map (λ i=>(i.zero,i.size,i.bytes))=some (some z,size,bytes))(hzs:z.cells.size=size)(hsz:0 < size)
  (hf:∀x,(f x).length=size) (h1:∀u∈f y,u.oneCell'=true) (hown:aH f e size w base lv l)
  (g0:Nat) (hg0:aB w g0 e (f y).toArray) (hlen:(l.length+1)*bytes<=140737488355328) (mL:l.length+1<=140737488355328) (hbase:base<=w.heap.size):
  ∃v' w',(Builtin.append_ #[t,t] ty #[lv,aL g0 1 1]).run P w=.ok v' w'/\aH f e size w' base v' (l++ [y])/\AR f e size base lv l y w w'/\(v'.ownBlock=lv.ownBlock\/v'.ownBlock=some w.heap.size):=by
 open zdl in exact Zbz
section
variable {P:Program} {β:Type} (f:β->wL) (val:β->Value) (e:TypeId) (size base:Nat) (l:List β) (lv:Value) (Post:β->rQ->rQ->Prop) (w0:rQ)
def IZ:wL->rQ->Prop
 | [],w=>ai w0 w
 | [a],w=>∃y w1 gZ,a=val y/\ai w0 w1/\Post y w1 gZ/\ai gZ w
 | [a,s],w=>∃y w1 gZ g0,a=val y/\s=aL g0 1 1/\ai w0 w1/\Post y w1 gZ/\ai gZ w/\aB w g0 e (f y).toArray
 | [a,s,v],w=>∃y w1 gZ w2,a=val y/\ai w0 w1/\Post y w1 gZ/\ai gZ w2/\aH f e size w2 base lv l/\w2.grownBy w lv.ownBlock/\aH f e size w base v (l++ [y])/\(v.ownBlock=lv.ownBlock\/v.ownBlock=some w2.heap.size)
 | _,_=>False
theorem Mg (vs:wL)(w:rQ)(h:IZ f val e size base l lv Post w0 vs w):IZ f val e size base l lv Post w0 vs w.drew:=by
 match vs,h with
 | [],h=>exact ai.trans h (ai.drew _)
 | [a],⟨y,w1,gZ,h1,h2,h3,h4⟩=>exact⟨y,w1,gZ,h1,h2,h3,h4.trans (ai.drew _)⟩
 | [a,s],⟨y,w1,gZ,g0,h1,h2,h3,h4,h5,h6⟩=>exact Zhh
 | [a,s,v],⟨y,w1,gZ,w2,h1,h2,h3,h4,h5,h6,h7,h8⟩=>exact⟨y,w1,gZ,w2,h1,h2,h3,h4,h5,⟨h6.os,h6.tape,h6.output,h6.size,h6.block⟩,h7.later (ai.drew _),h8⟩
 | _::_::_::_::_,h=>exact h.elim
variable {f val e size base l lv Post w0}
variable {Q:yD} {a0:Act} {id:Nat} {o0 o1 o2 o3 o4 o5 o6 o7:Oper} {q d0 d1 d2 d3 d4 d5 d6:Tmp} {qb k g:Nat} {pq ptr:Value} {F:FuncId} {args:x_}
theorem zcj.Kat(h:p:=by
 have Cn:∀vs w,IZ f val e size base l lv Post w0 vs w->w.cell? ⟨qb,k,none⟩=some lv:=by exact ZbN
 refine oY [o7] [o0,o1,o2,o3,o4,o5,o6] rfl (λ i=>if i=0 then bc qb k else if i=1 then lv else if i=2 then ptr else bc qb k) [3,4,5] (IZ f val e size base l lv Post w0) (Mg f val e size base l lv Post w0) (ai.refl w0) hm aZ hz hch V0 rfl ?_ ?_
 ·refine⟨Zdc,Zfs,Zde,Zcu,ZbP,?_,Zdf,trivial⟩
  ·intro ρ w vs hc hG hr;rw[t5] at hr;have r0:=hr.1;have r1:=hr.2.1;simp only[s5] at r0;simp only[s5'] at r1;refine⟨g5,?_⟩;show vs.length=2->_;intro hl
   match vs,hl with
   | [a,s],_=>have r1:some s=some (ρ (.tmp d4)):=r1;injection r1 with r1;obtain⟨y,w1,gZ,gg,ha,hs,h2,h3,h4',h5⟩:=hG;obtain⟨k1,k2,k3⟩:=wB h2 h3 h4';obtain⟨v',w',hrun,ho,yL,h4⟩:=Af (P:=P) (w:=w) t ty z bytes ht jB hzs hsz hf (h1 y) k2 gg h5 hlen mL (Nat.le_trans hbase k3);exact aq (hap ρ w _ v' w' r0 (r1.symm.trans hs) hrun) ⟨y,w1,gZ,w,ha,h2,h3,h4',k2,yL.grown,ho,h4⟩
 ·exact Zbs):p:=h
theorem Ja (t ty:TypeId)(z:Value)(bytes:Nat)
  (hm:P.follows .mixedOrders=true) (aZ:dP [o0,o1,o2,o3,o4,o5,o6] a0.tmps.size [o0,o1,o2,o3,o4,o5,o6] 0=true) (hz:eU [o0,o1,o2,o3,o4,o5,o6,o7] [o7] 7=true) (hch:lz [o0,o1,o2,o3,o4,o5,o6] [3,4,5]=true) (Cm:Cl o0 o1 o2 o3 o4 o5 o6 q d0 d1 d2 d3 d4 d5 d6=true)
  (hq:a0.eval (.tmp q)=pq) (h0:a0.eval (.tmp 0)=ptr)
  (hfa:∀ρ w,ρ (.tmp q)=pq->(execOp ρ o0).run P w=.ok (.value (bc qb k)) w) (E9:∀ρ w,ρ (.tmp q)=pq->(execOp ρ o6).run P w=.ok (.value (bc qb k)) w)
  (hld:∀ρ w,ρ (.tmp d0)=bc qb k->w.cell? ⟨qb,k,none⟩=some lv->(execOp ρ o1).run P w=.ok (.value lv) w)
  (Ey:∀ρ w,ρ (.tmp 0)=ptr->(execOp ρ o2).run P w=.ok (.value ptr) w)
  (cL:∀ρ w,oG ρ->ρ (.tmp d2)=ptr->(execOp ρ o3).run P w=.ok (.enter F args) w)
  (Kd:∀ρ w y,ρ (.tmp d3)=val y->(execOp ρ o4).run P w=.ok (.value (aL w.heap.size 1 1)) (w.alloc (.cells (f y).toArray e)))
  (hap:∀ρ w s v' w',ρ (.tmp d1)=lv->ρ (.tmp d4)=s->(Builtin.append_ #[t,t] ty #[lv,s]).run P w=.ok v' w'->(execOp ρ o5).run P w=.ok (.value v') w')
  (ht:P.underlying t=some (.slice e)) (jB:(P.info? e).map (λ i=>(i.zero,i.size,i.bytes))=some (some z,size,bytes)) (hzs:z.cells.size=size) (hsz:0 < size) (hf:∀x,(f x).length=size) (h1:∀y,∀u∈f y,u.oneCell'=true)
  (hown:aH f e size w0 base lv l) (hcell:w0.cell? ⟨qb,k,none⟩=some lv) (Uw:qb≠g) (XW:lv.ownBlock≠some g) (hlq:lv.ownBlock≠some qb) (hlen:(l.length+1)*bytes<=140737488355328) (mL:l.length+1<=140737488355328) (hbase:base<=w0.heap.size)
  (lW:∀w,ai w0 w->Calls P F args w λ e w'=>∃y,e=.returned (val y)/\Post y w w') (Te:∀y w w',Post y w w'->w.grownBy w' (some g))
  (ml:∀y s v' w1 gZ w2 W,ai w0 w1->Post y w1 gZ->ai gZ w2->aH f e size w2 base lv l->w2.grownBy W lv.ownBlock->aH f e size W base v' (l++ [y])->(v'.ownBlock=lv.ownBlock\/v'.ownBlock=some w2.heap.size)->W.cell? ⟨qb,k,none⟩=some lv->
    wpList P [o0,o1,o2,o3,o4,o5,o6,o7].toArray Q [o7] (((((((a0.put (some d0) (bc qb k)).put (some d1) lv).put (some d2) ptr).put (some d3) (val y)).put (some d4) s).put (some d5) v').put (some d6) (bc qb k)) W):
  (Code.region id [o0,o1,o2,o3,o4,o5,o6,o7].toArray true).wp P Q a0 w0:=by
 open zcj in exact ZaR
end
def H8 (y:Ex×Bool):wL:=bD y.1++ [.bool y.2]
def orV (y:Ex×Bool):Value:=.agg (H8 y).toArray
def orZ:Obj:=.cells #[ag 0,ag 0,af 0,au,au,af 0,ay,.bool false] 117
def yl (B:Nat)(v:Value)(w:rQ):Nat->Prop:=λ b=>B<=b/\b < w.heap.size/\some b≠v.ownBlock
theorem px{g:Nat}  (h:w.grownBy w' (some g))(hg:g < B):∀b,yl B v w b->(∀o,w'.cell? ⟨b,o,none⟩=w.cell? ⟨b,o,none⟩)/\yl B v w' b:=λ b hb=>
 ⟨cell_of_heap (h.block b hb.2.1 (λ e=>by injection e with e;have:=hb.1;omega)),hb.1,Nat.lt_of_lt_of_le hb.2.1 h.size,hb.2.2⟩
theorem py(h:aj w w'):∀b,yl B v w b->(∀o,w'.cell? ⟨b,o,none⟩=w.cell? ⟨b,o,none⟩)/\yl B v w' b:=λ b hb=>
 ⟨cell_of_heap (h.block b hb.2.1),hb.1,Nat.lt_of_lt_of_le hb.2.1 h.size,hb.2.2⟩
variable{v':Value}
theorem Cr(h:w.grownBy w' v.ownBlock)(hv:v'.ownBlock=v.ownBlock\/v'.ownBlock=some w.heap.size):∀b,yl B v w b->(∀o,w'.cell? ⟨b,o,none⟩=w.cell? ⟨b,o,none⟩)/\yl B v' w' b:=λ b hb=>
 ⟨cell_of_heap (h.block b hb.2.1 hb.2.2),hb.1,Nat.lt_of_lt_of_le hb.2.1 h.size,λ e=>by
   rcases hv with hv | hv
   ·exact hb.2.2 (e.trans hv)
   ·rw[hv] at e;injection e with e;have:=hb.2.1;omega⟩
variable{B':Nat}
theorem I0(hB:B'<=B)(hv:∀g,v.ownBlock=some g->g < B):∀b,ju B w b->(∀o,w.cell? ⟨b,o,none⟩=w.cell? ⟨b,o,none⟩)/\yl B' v w b:=λ b hb=>
 ⟨λ _=>rfl,Nat.le_trans hB hb.1,hb.2,λ e=>by have:=hv b e.symm;have:=hb.1;omega⟩
theorem Mh(hB:B'<=B):∀b,yl B v w b->(∀o,w.cell? ⟨b,o,none⟩=w.cell? ⟨b,o,none⟩)/\ju B' w b:=λ b hb=>⟨λ _=>rfl,Nat.le_trans hB hb.1,hb.2.1⟩
structure kE {α:Type} (E:El α) (T:TypeId) (w:rQ) (B:Nat) (v:Value) (l:List α):Prop where
 has:∃ys:List E.β,aH E.f T E.size w B v ys/\mF (E.rel w (yl B v w)) l ys
section
variable {α:Type} {E:El α} {T:TypeId} {w w':rQ} {B g:Nat} {v:Value} {l:List α}
theorem kE.Qc (h:kE E T w B v l) {G:Nat}(hG:v.ownBlock=some G):B<=G/\G < w.heap.size:=by obtain⟨ys,h1,h2⟩:=h.has;exact⟨(h1.lt hG).2.1,(h1.lt hG).1⟩
theorem kE.grown (h:kE E T w B v l)(hb:w.grownBy w' (some g))(hg:g < B):kE E T w' B v l:=by obtain⟨ys,h1,h2⟩:=h.has;exact⟨ys,h1.grown hb (λ e=>by have:=(h1.lt e).2.1;omega),h2.imp λ x y=>E.keep (px hb hg)⟩
theorem kE.sl (h:kE E T w B v l) {B':Nat}(hB:B'<=B):∃y:Sl,v=nQ y/\y.n=l.length/\E.sl w (ju B' w) y l:=by obtain⟨ys,h1,h2⟩:=h.has;obtain⟨A,c,hv,hr⟩:=PX E.hf h1 (S:=ju B' w) (λ g h3 h4=>⟨by omega,h4⟩);refine⟨⟨A,l.length,c⟩,?_,rfl,rfl,ys,hr,h2.imp λ x y=>E.keep (Mh hB)⟩;rw[hv,h2.len];rfl
theorem kE.nil (E:El α)(T:TypeId)(w:rQ)(B:Nat):kE E T w B (ay) []:=⟨[],aH.nil,.nil⟩
end
def SlW (ρ:dy)(w:rQ)(l:List Tr)(r:dH)(e:Ending)(w':rQ):Prop:=∃y:Sl,e=.returned (nQ y)/\IL.sl w' (ju w.heap.size w') y l/\eN ρ w w' (.good r) false
theorem FX{s:t_} (hs:dK s.data.toList r=false)(ρ:dy)(w:rQ)(h:ρ.at w (.good r) false):ar 142 #[ρ.ptr,.string s] w (SlW ρ w [] r):=by have HL:=cw ρ w _ false h s hs;clear hs;go_enter Tryz.func142,Tryz.ntmps142;go_wp2_with fail;refine HL.mono ?_;rintro e w1 ⟨rfl,b1⟩;go_wp2_with fail;go_ret;exact⟨Sl.nil,rfl,El.uv _ _ _,b1⟩
theorem Qd{s:t_} {k:Wd}  (hs:jg s.data.toList k=true)(H:cZ 0 l x r)(ρ:dy)(w:rQ)(h:ρ.at w (.good (k::l)) false):ar 142 #[ρ.ptr,.string s] w (SlW ρ w [x] r):=by have HL:=oh ρ w _ false h s hs;have ej:=h.FQ;have HH:=aa H;clear hs H;go_enter Tryz.func142,Tryz.ntmps142;go_wp2_with fail;refine HL.mono ?_;rintro e w1 ⟨rfl,b1⟩;go_wp2_with fail;refine(HH.ae ρ _ b1.at_).mono ?_;rintro e w2 ⟨y,rfl,ht,d2⟩;unfold mD bD;go_wp2_with fail;go_ret;have hs:=b1.size;exact⟨⟨some ⟨w2.heap.size,0,none⟩,1,1⟩,rfl,H7 (aB.new w2 _ _) ⟨by have:=d2.size;omega,by simp⟩ ((ht.later (ah w2 _)).more hs),(b1.trans d2).later (ah w2 (uq y))⟩
theorem Jb(hc:jg dN u=false)(n:Nat)(hn:n<=64)(ρ:dy)(w:rQ)(h:ρ.at w (.good (u::r)) false):
  ar 140 #[ρ.ptr,af n] w λ e w'=>e=.returned (.bool false)/\eN ρ w w' (.good (u::r)) false:=by have hh:(ck.good (u::r)).head dN=false:=hc;have:=FT ρ w _ false h n TD;rw[hh,jn hh,show(false || decide (64 < n))=false by simp;omega] at this;exact this
theorem I1(hc:jg dN u=true)(n:Nat)(hn:n<=64)(ρ:dy)(w:rQ)(h:ρ.at w (.good (u::r)) false):
  ar 140 #[ρ.ptr,af n] w λ e w'=>e=.returned (.bool true)/\eN ρ w w' (.good r) false:=by have hh:(ck.good (u::r)).head dN=true:=hc;have:=FT ρ w _ false h n TD;rw[hh,jZ hh,show(false || decide (64 < n))=false by simp;omega] at this;exact this
theorem VO(hc:jg dN u=false)(H:cZ 0 l x (u::r))(ρ:dy)(w:rQ)(h:ρ.at w (.good l) false):ar 179 #[ρ.ptr] w (SlW ρ w [x] (u::r)):=by
 have ej:=h.FQ;have HM:=aa (λ ρ w h=>Jb (r:=r) hc 1 TD ρ w h);have HH:=aa H;clear hc H;go_enter Tryz.func179,Tryz.ntmps179;go_wp2_with fail;refine(HH.ae ρ _ h).mono ?_;rintro e w2 ⟨y,rfl,ht,d2⟩;unfold mD bD;have hs2:=d2.size;go_wp2_with fail;have HD:=aa (d2.later (ah w2 (uq y)));have HX:=aa (aB.new w2 46 (bD y).toArray);have HT:=aa (ht.later (ah w2 (uq y)));unfold uq bD at HD HX HT;clear ht d2;generalize hW3:w2.alloc _=W3 at*;generalize w2.heap.size=g at*;clear hW3;go_loopg [3] 0 (λ k v wr=>v=aL g 1 1/\wr=W3);case atStart=>exact Ze7
 case round=>obtain⟨hv,rfl⟩:=hrel;subst hv;go_wp2_with fail;refine(HM.ae ρ _ HD.ae.at_).mono ?_;rintro e w4 ⟨rfl,d4⟩;go_wp2_with fail;go_ret;have hX:=d4.blk HX.ae TD;exact⟨⟨some ⟨g,0,none⟩,1,1⟩,rfl,H7 hX ⟨hs2,hX.lt⟩ (HT.ae.grown d4.grown TD),HD.ae.trans d4⟩
def ElW(E:El α)(val:E.β->Value)(ρ:dy)(W:rQ)(x:α)(r:dH)(e:Ending)(w':rQ):Prop:=∃y:E.β,e=.returned (val y)/\E.rel w' (ju W.heap.size w') x y/\eN ρ W w' (.good r) false
theorem Qe{k:Wd} (hk:jg PB k=true)(H:cZ 0 l x (k::r))(ρ:dy)(w:rQ)(h:ρ.at w (.good l) false):ar 180 #[ρ.ptr] w (ElW sD orV ρ w (x,true) r):=by
 have HK:=aa hk;have HH:=aa H;clear hk H;have ej:=h.FQ;have hb:=ah w orZ;have h0:=h.later hb;have HQ:=aa (aB.new w 117 #[ag 0,ag 0,af 0,au,au,af 0,ay,.bool false]);have hsz:(w.alloc orZ).heap.size=w.heap.size+1:=by simp
 unfold orZ at*;go_enter Tryz.func180,Tryz.ntmps180;go_wp2_with fail;refine(HH.ae ρ _ h0).mono ?_;rintro e w2 ⟨y,rfl,ht,d2⟩;unfold mD bD;have hs2:=d2.size;go_wp2_with fail;have D3:=((eN.dh h hb).trans d2).later (ah w2 (.cells (H8 (y,false)).toArray 117));have HX:=aB.new w2 117 (H8 (y,false)).toArray;have nc:=(d2.blk HQ.ae TD).alloc (.cells (H8 (y,false)).toArray 117);have htx:=Tr.at_.keep (PG (.cells (H8 (y,false)).toArray 117) (show w.heap.size+1<=_ by omega)) _ _ ht;have hs3:(w2.alloc (.cells (H8 (y,false)).toArray 117)).heap.size=w2.heap.size+1:=by simp
 unfold H8 bD at D3 HX nc htx hs3;simp only[cons_append,nil_append] at D3 HX nc htx hs3;generalize w2.alloc _=W3 at*;have hm:=oh ρ W3 _ false D3.at_ ⟨#[100,101,115,99]⟩ HK.ae;clear h0 hb HQ ht d2;refine hm.mono ?_;rintro e w4 ⟨rfl,d4⟩;have AO:=d4.blk HX TD;have hx2:=HX.lt;have Ei:=AO.aT 7 (.bool true);simp only[setIfInBounds_toArray,set_cons_zero,set_cons_succ] at Ei;have hxf:=AO.frozen 7;have hxc:=AO.cell 7;have Ad:=(d4.blk nc TD).far (p:=⟨w2.heap.size,7,none⟩) Tab (.bool true);have D6:=(D3.trans d4).far ej (show w.heap.size<=w2.heap.size by omega) 7 (.bool true);have xj:=aa (Tr.at_.keep (PF (Nat.le_refl _)) _ _ (Tr.at_.keep (B3 7 (.bool true)) _ _ (Tr.at_.keep (vY d4.grown TD) _ _ htx)));have XY:=aa D6;have Ki:=aa Ad;obtain⟨x0,x1,x2,x3,x4,x5,x6,x7⟩:=dB Ei;obtain⟨y0,y1,y2,y3,y4,y5,y6,y7⟩:=dB Ad;obtain⟨z0,z1,z2,z3,z4,z5,z6,z7⟩:=lD Ad;clear AO Ei Ad HX nc D3 d4 hm D6 hx2;go_wp2_with fail;have HP:=Md Ki.ae y (.bool true);have HR:=dB HP;unfold uw dY at HR;obtain⟨r0,r1,r2,r3,r4,r5,r6,r7⟩:=HR;refine bodyPost_ret (v:=orV (y,true)) ?_ rfl ?_
 ·simp[results,Tryz.results180,go_sem,r0,r1,r2,r3,r4,r5,r6,r7];rfl
 ·exact⟨(y,true),rfl,⟨(xj.ae.uw (Nat.lt_succ_self _) y (.bool true)).more TD,rfl⟩,XY.ae.uw ej (Nat.le_refl _) y (.bool true)⟩
theorem Cs{k:Wd} (hk:jg acy k=false)(H:cZ 0 l x (k::r))(ρ:dy)(w:rQ)(h:ρ.at w (.good l) false):ar 178 #[ρ.ptr] w (ElW rb itV ρ w (x,ByteArray.empty) (k::r)):=by
 have HK:=aa hk;have HH:=aa H;clear hk H;have ej:=h.FQ;have hb:=ah w itZ;have h0:=h.later hb;have HQ:=aa (aB.new w 48 #[ag 0,ag 0,af 0,au,au,af 0,ay,au]);have hsz:(w.alloc itZ).heap.size=w.heap.size+1:=by simp
 unfold itZ at*;go_enter Tryz.func178,Tryz.ntmps178;go_wp2_with fail;refine(HH.ae ρ _ h0).mono ?_;rintro e w2 ⟨y,rfl,ht,d2⟩;unfold mD bD;have hs2:=d2.size;go_wp2_with fail;have D3:=((eN.dh h hb).trans d2).later (ah w2 (.cells (Tm (y,⟨#[]⟩)).toArray 48));have HX:=aB.new w2 48 (Tm (y,⟨#[]⟩)).toArray;have nc:=(d2.blk HQ.ae TD).alloc (.cells (Tm (y,⟨#[]⟩)).toArray 48);have ht3:=(ht.later (ah w2 (.cells (Tm (y,⟨#[]⟩)).toArray 48))).more (B':=w.heap.size+1) TD;unfold Tm bD at D3 HX nc ht3;simp only[cons_append,nil_append] at D3 HX nc ht3;generalize w2.alloc _=W3 at*;have hm:=cw ρ W3 _ false D3.at_ ⟨#[97,115]⟩ HK.ae;clear h0 hb HQ ht d2;refine hm.mono ?_;rintro e w4 ⟨rfl,d4⟩;have Ei:=d4.blk HX TD;have Ad:=d4.blk nc TD;have HT4:=aa (ht3.grown d4.grown TD);have HD4:=aa (D3.trans d4);have Ki:=aa Ad;obtain⟨x0,x1,x2,x3,x4,x5,x6,x7⟩:=dB Ei;obtain⟨y0,y1,y2,y3,y4,y5,y6,y7⟩:=dB Ad;obtain⟨z0,z1,z2,z3,z4,z5,z6,z7⟩:=lD Ad;clear Ei Ad HX nc ht3 D3 d4 hm;go_wp2_with fail;have HP:=Md Ki.ae y (au);have HR:=dB HP;unfold uw dY at HR;obtain⟨r0,r1,r2,r3,r4,r5,r6,r7⟩:=HR;refine bodyPost_ret (v:=itV (y,⟨#[]⟩)) ?_ rfl ?_
 ·simp[results,Tryz.results178,go_sem,r0,r1,r2,r3,r4,r5,r6,r7];rfl
 ·exact⟨(y,⟨#[]⟩),rfl,⟨(HT4.ae.uw (Nat.lt_succ_self _) y (au)).more TD,rfl⟩,HD4.ae.uw ej (Nat.le_refl _) y (au)⟩
section
variable {σ:ck}
end
section
variable {α β:Type} {P k:Ps α} {σ zh:ck} {p:Ps β} {f:β->Ps α} {x:β} {z:α}
end
section
variable {α β γ:Type}
end
section
variable {α β:Type} {n:Nat} {p:Ps α} {Q Q':α->Prop} {R:β->Prop}
end
section
variable {n:Nat}
end
def acS (t:Wd):Prop:=(0<=t.n/\t.n<=9223372036854775807)/\(t.k=4->t.s∈signs)
variable{rest:w_}
theorem acT{r:w_} {w:Wd}(h:iG r=.ok (w,rest)):acS w:=by
 match r with
 | []=>cases h
 | c::r=>
   simp only[iG] at h;split at h
   ·exact ZeV
   split at h
   ·split at h
    ·rename_i hb;injection h with h;injection h with h1 h2;subst h1;refine⟨?_,λ e=>by simp at e⟩;simp only[Bool.and_eq_true,vV,decide_eq_true_eq] at hb;have:=hb.1.2;simp only;omega
    ·cases h
   split at h
   ·exact ZeV
   ·split at h
    ·rename_i s hs;injection h with h;injection h with h1 h2;subst h1;exact⟨⟨by simp,by simp⟩,λ _=>(qZ hs).1⟩
    ·cases h
theorem Mi (n:Nat):∀(f:Nat) (r:w_) (l:List qX),xN n f r=.ok l->(∃b,l=b++ [⟨⟨0,[],0⟩,n⟩])/\l.length<=r.length+1/\∀t∈l,acS t.w
 | 0,r,l,h=>by cases h
 | f+1,r,l,h=>by
   have hle:=ky false r;simp only[xN] at h;split at h
   ·injection h with h;subst h;exact⟨⟨[],rfl⟩,by simp,λ t ht=>by simp at ht;subst ht;exact⟨⟨by simp,by simp⟩,λ e=>by simp at e⟩⟩
   ·rename_i c r' hsk;rw[hsk] at hle;split at h
    ·cases h
    ·rename_i w rest ho;have hlt:=AD ho;split at h
     ·cases h
     ·rename_i l' hl';injection h with h;subst h;obtain⟨⟨b,hb⟩,h1,h2⟩:=Mi n f rest l' hl';refine⟨⟨⟨w,_⟩::b,by rw[hb];rfl⟩,by simp only[length_cons] at hlt hle ⊢;omega,λ t ht=>?_⟩;rcases List.mem_cons.1 ht with rfl | ht
      ·exact acT ho
      ·exact h2 t ht
theorem Tp{s:w_} {l:List qX}(h:zY s=.ok l):(∃b n,l=b++ [⟨⟨0,[],0⟩,n⟩])/\l.length<=4097/\∀t∈l,acS t.w:=by
 unfold zY at h;split at h
 ·cases h
 ·rename_i hs;obtain⟨⟨b,hb⟩,h1,h2⟩:=Mi _ _ _ _ h;exact⟨⟨b,_,hb⟩,by omega,h2⟩
theorem VP{s:w_} {l:List qX}(h:zY s=.ok l):yX (l.map (·.w)):=by obtain⟨⟨b,n,rfl⟩,_⟩:=Tp h;exact⟨b.map (·.w),⟨0,[],0⟩,by simp,rfl⟩
theorem FY:(Tryz.prog.info? 48).map (λ i=>(i.zero,i.size,i.bytes))=some (some (.agg #[ag 0,ag 0,af 0,au,au,af 0,ay,au]),8,104):=by exact ZgH
def afV(E:El α)(lng:α->Bool)(ρ:dy)(p:Ps α)(σ:ck)(big:Bool)(y:E.β)(w w':rQ):Prop:=∃x:α,E.rel w' (ju w.heap.size w') x y/\eN ρ w w' (dv p σ) (big || lng x)/\kz p σ x
variable{lng:α->Bool}{w0 w1 gZ w2:rQ}{acc:List α}
theorem Qf{p:Ps α}       {y:E.β}(hB:w0.heap.size<=B)(hg:ρ.g < w0.heap.size)(hR:kE E T wr B v acc)(hBr:B<=wr.heap.size)(hD:eN ρ w0 wr σ big)(fJ:ai wr w1)(hp:afV E lng ρ p σ big y w1 gZ)(hl2:ai gZ w2)(bJ:w2.grownBy W v.ownBlock)
  (ys:List E.β) (LK:aH E.f T E.size W B v' (ys++ [y])) (hys:mF (E.rel wr (yl B v wr)) acc ys) (hv:v'.ownBlock=v.ownBlock\/v'.ownBlock=some w2.heap.size):
  ∃x:α,kE E T W B v' (acc++ [x])/\eN ρ w0 W (dv p σ) (big || lng x)/\kz p σ x:=by
 obtain⟨x,hx,hd,XZ⟩:=hp;have hgB:ρ.g < B:=by omega
 have own:∀G,v.ownBlock=some G->B<=G/\G < wr.heap.size:=λ G hG=>hR.Qc hG
 refine⟨x,⟨ys++ [y],LK,mF.append ?_ (.one ?_)⟩,?_,XZ⟩
 ·exact hys.imp λ a b hab=>E.keep (Cr bJ hv) (E.keep (py hl2) (E.keep (px hd.grown hgB) (E.keep (py fJ) hab)))
 ·refine E.keep (Cr bJ hv) (E.keep (I0 (B:=w1.heap.size) (B':=B) (Nat.le_trans hBr fJ.size) λ G hG=>?_) (E.keep (ja hl2) hx));exact Nat.lt_of_lt_of_le (own G hG).2 fJ.size
 ·exact(((hD.later fJ).trans hd).later hl2).own hg bJ λ G hG=>by have:=(own G hG).1;omega
theorem Mj(hq:q < B)(i:Nat)(u:Value):∀b,yl B v w b->(∀o,(w.setCell ⟨q,i,none⟩ u).cell? ⟨b,o,none⟩=w.cell? ⟨b,o,none⟩)/\yl B v (w.setCell ⟨q,i,none⟩ u) b:=λ b hb=>
 ⟨cell_of_heap (Below.heap_setCell w ⟨q,i,none⟩ u b (by have:=hb.1;simp;omega)),hb.1,by simpa [World.setCell] using hb.2.1,hb.2.2⟩
theorem kE.far{l:List α}(h:kE E T w B v l)(hq:q < B)(i:Nat)(u:Value):kE E T (w.setCell ⟨q,i,none⟩ u) B v l:=by
 have vp:=λ G hG=>(h.Qc (G:=G) hG).1
 obtain⟨ys,h1,h2⟩:=h.has;exact⟨ys,h1.keep λ g hg=>Below.heap_setCell w ⟨q,i,none⟩ u g (by have:=vp g hg;simp;omega),h2.imp λ x y=>E.keep (Mj hq i u)⟩
def quZ:Obj:=.cells #[ay,au,.bool false,ay,ay,ay,ay,ay] 27
theorem Qg:(Tryz.prog.info? 117).map (λ i=>(i.zero,i.size,i.bytes))=some (some (.agg #[ag 0,ag 0,af 0,au,au,af 0,ay,.bool false]),8,96):=by exact ZgH
def Ag (w:rQ)(q:Nat)(m:yj):rQ:=(((((((w.setCell ⟨q,0,none⟩ (nQ m.items)).setCell ⟨q,1,none⟩ (.string m.bT)).setCell ⟨q,2,none⟩ (.bool m.only)).setCell ⟨q,3,none⟩ (nQ m.bF)).setCell ⟨q,4,none⟩ (nQ m.group)).setCell ⟨q,5,none⟩ (nQ m.having)).setCell ⟨q,6,none⟩ (nQ m.order)).setCell ⟨q,7,none⟩ (nQ m.dA)
theorem Mk{a b i:Value}(h:aB w q T #[a,b,c,d,e,f,g,i])(m:yj):aB (Ag w q m) q T (Mc m).toArray:=by have:=(((((((h.aT 0 (nQ m.items)).aT 1 (.string m.bT)).aT 2 (.bool m.only)).aT 3 (nQ m.bF)).aT 4 (nQ m.group)).aT 5 (nQ m.having)).aT 6 (nQ m.order)).aT 7 (nQ m.dA);exact ZdC
theorem eN.Ag(h:eN ρ W w σ big)(hW:ρ.g < W.heap.size)(hq:W.heap.size<=q)(m:yj):eN ρ W (Ag w q m) σ big:=
 (((((((h.far hW hq 0 _).far hW hq 1 _).far hW hq 2 _).far hW hq 3 _).far hW hq 4 _).far hW hq 5 _).far hW hq 6 _).far hW hq 7 _
variable{m:yj}
theorem Qu.at_.Ag{d:Qu} (h:d.at_ w (ju B w) m)(hq:q < B)(m':yj):d.at_ (Ag w q m') (ju B (Go.Proofs.YtndgjggokjickaaGreatDoor.R.Ag w q m')) m:=by
 have s:=λ(w:rQ) (h:d.at_ w (ju B w) m) (i:Nat) (u:Value)=>Qu.at_.keep (sF (w:=w) hq i u) h
 exact s _ (s _ (s _ (s _ (s _ (s _ (s _ (s _ h 0 _) 1 _) 2 _) 3 _) 4 _) 5 _) 6 _) 7 _
theorem acU{k:Int}(h:aB w G 2 #[af k])(hS:S G):SM.sl w S ⟨some ⟨G,0,none⟩,1,1⟩ [k]:=
 ⟨rfl,[k],PH (f:=λ k:Int=> [Value.int .i64 k]) (λ _=>rfl) h hS,.one rfl⟩
section
variable {ρ:dy} {w wr w2:rQ} {big:Bool} {σ zh:ck} {m:yj} {d:Qu}
end
inductive acV (s:w_):dH->List Tr->dH->Prop
 | none {l:dH} (h:dK s l=false):acV s l [] l
 | some {k:Wd} {l r:dH} {x:Tr} (h:jg s k=true) (H:cZ 0 l x r):acV s (k::l) [x] r
inductive ux:dH->List (Tr×t_)->dH->Prop
 | one {l r:dH} {u:Wd} {x:Tr} (H:cZ 0 l x (u::r)) (ha:jg acy u=false) (hc:jg dN u=false):ux l [(x,ByteArray.empty)] (u::r)
 | cons {l l2 r:dH} {c:Wd} {x:Tr} {xs:List (Tr×t_)} (H:cZ 0 l x (c::l2)) (ha:jg acy c=false) (hc:jg dN c=true) (h:ux l2 xs r):ux l ((x,ByteArray.empty)::xs) r
inductive Tq:dH->List (Tr×t_)->dH->Prop
 | done {r:dH} {u:Wd} (hc:jg dN u=false):Tq (u::r) [] (u::r)
 | more {l r:dH} {c:Wd} {xs:List (Tr×t_)} (hc:jg dN c=true) (h:ux l xs r):Tq (c::l) xs r
variable{xs:List (Tr×t_)}
theorem ux.first(h:ux l xs r):∃(x:Tr) (ys:List (Tr×t_)) (c:Wd) (l2:dH),xs=(x,ByteArray.empty)::ys/\cZ 0 l x (c::l2)/\jg acy c=false/\Tq (c::l2) ys r:=by
 cases h with
 | one H ha hc=>exact⟨_,_,_,_,rfl,H,ha,.done hc⟩
 | cons H ha hc h=>exact⟨_,_,_,_,rfl,H,ha,.more hc h⟩
inductive aiy:dH->List Tr->dH->Prop
 | none {l:dH} (h:dK AH l=false):aiy l [] l
 | some {k b u:Wd} {l r:dH} {x:Tr} (h:jg AH k=true) (hb:jg PA b=true) (hc:jg dN u=false) (H:cZ 0 l x (u::r)):aiy (k::b::l) [x] (u::r)
inductive aiz:dH->List (Tr×Bool)->dH->Prop
 | none {l:dH} (h:dK IG l=false):aiz l [] l
 | some {k b d u:Wd} {l r:dH} {x:Tr} (h:jg IG k=true) (hb:jg PA b=true) (hd:jg PB d=true) (hc:jg dN u=false) (H:cZ 0 l x (d::u::r)):aiz (k::b::l) [(x,true)] (u::r)
inductive aiA:dH->List Int->dH->Prop
 | none {l:dH} (h:dK IH l=false):aiA l [] l
 | some {k n:Wd} {r:dH} (h:jg IH k=true) (hn:n.k=2):aiA (k::n::r) [n.n] r
structure Ya (ρ:dy) (w wr:rQ) (l:dH) (m:yj) (d:Qu):Prop where
 did:eN ρ w wr (.good l) false
 blk:aB wr (w.heap.size+1) 27 (Mc m).toArray
 res:aB wr w.heap.size 27 #[ay,au,.bool false,ay,ay,ay,ay,ay]
 at_:d.at_ wr (ju (w.heap.size+2) wr) m
section
variable {ρ:dy} {w wr w2:rQ} {l r:dH} {m:yj} {d:Qu}
theorem Ya.later (A:Ya ρ w wr l m d)(hb:aj wr w2):Ya ρ w w2 l m d:=
 ⟨A.did.later hb,A.blk.later hb,A.res.later hb,Qu.at_.keep (ja hb) A.at_⟩
theorem Ya.EC (A:Ya ρ w wr l m d)(hg:ρ.g < w.heap.size)(dd:eN ρ wr w2 (.good r) false):Ya ρ w w2 r m d:=
 ⟨A.did.trans dd,dd.blk A.blk TD,dd.blk A.res TD,Qu.at_.keep (lJ dd.grown TD) A.at_⟩
theorem Ya.set {m':yj} {d':Qu}(A:Ya ρ w wr l m d)(hg:ρ.g < w.heap.size)(i:Nat)(u:Value)(hb:(Mc m').toArray=(Mc m).toArray.setIfInBounds i u)(hat:Qu.at_ wr (ju (w.heap.size+2) wr) d' m'):Ya ρ w (wr.setCell ⟨w.heap.size+1,i,none⟩ u) l m' d':=by refine⟨A.did.far hg TD i u,?_,A.res.far (p:=⟨w.heap.size+1,i,none⟩) Taa u,Qu.at_.keep (sF TD i u) hat⟩;rw[hb];exact A.blk.aT i u
end
def anV(x:α)(r:dH):Ps α:=λ _=> .ok (x,r)
structure PuA {α:Type} (E:El α) (T:TypeId) (ρ:dy) (w wr:rQ) (l:dH) (k:Nat) (v:Value) (acc:List α) (cs:wL) (m:yj) (d:Qu):Prop where
 row:kE E T wr (w.heap.size+2) v acc
 did:eN ρ w wr (.good l) false
 blk:aB wr (w.heap.size+1) 27 cs.toArray
 res:aB wr w.heap.size 27 #[ay,au,.bool false,ay,ay,ay,ay,ay]
 at_:d.at_ wr (yl (w.heap.size+2) v wr) m
 cel:cs[k]?=some v
theorem PuA.EC{cs:wL}  {d:Qu}(A:PuA E T ρ w wr l k v acc cs m d)(hg:ρ.g < w.heap.size)(dd:eN ρ wr w2 (.good r) false):PuA E T ρ w w2 r k v acc cs m d:=
 ⟨A.row.grown dd.grown TD,A.did.trans dd,dd.blk A.blk TD,dd.blk A.res TD,Qu.at_.keep (px dd.grown TD) A.at_,A.cel⟩
variable{m':yj}{d':Qu}
theorem PuA.done{cs:wL}  {d:Qu}(A:PuA E T ρ w wr l k v acc cs m d)(hm:(Mc m').toArray=cs.toArray)(hat:Qu.at_ wr (ju (w.heap.size+2) wr) d' m'):Ya ρ w wr l m' d':=
 ⟨A.did,hm▸A.blk,A.res,hat⟩
variable{val:E.β->Value}{z:Value}{bytes:Nat}{Q:yD}{a0:Act}{rid:Nat}{o0 o1 o2 o3 o4 o5 o6 o7:Oper}{d4 d5 d6:Tmp}{F:FuncId}
theorem Qh{x:α}  {lv:Value}  {cs:wL}  {d:Qu}     {q d0 d1 d2 d3:Tmp} (t ty:TypeId)
  (A:PuA E T ρ w wr l k lv acc cs m d) (ej:ρ.g < w.heap.size) (hn:acc.length<=64) (hby:bytes<=1000)
  (hc:∀w',ρ.at w' (.good l) false->ar F #[ρ.ptr] w' (ElW E val ρ w' x r))
  (aZ:dP [o0,o1,o2,o3,o4,o5,o6] a0.tmps.size [o0,o1,o2,o3,o4,o5,o6] 0=true) (hz:eU [o0,o1,o2,o3,o4,o5,o6,o7] [o7] 7=true) (hch:lz [o0,o1,o2,o3,o4,o5,o6] [3,4,5]=true) (Cm:Cl o0 o1 o2 o3 o4 o5 o6 q d0 d1 d2 d3 d4 d5 d6=true)
  (hq:a0.eval (.tmp q)=aw (w.heap.size+1)) (h0:a0.eval (.tmp 0)=ρ.ptr)
  (hfa:∀ρ' w',ρ' (.tmp q)=aw (w.heap.size+1)->(execOp ρ' o0).run Tryz.prog w'=.ok (.value (bc (w.heap.size+1) k)) w')
  (E9:∀ρ' w',ρ' (.tmp q)=aw (w.heap.size+1)->(execOp ρ' o6).run Tryz.prog w'=.ok (.value (bc (w.heap.size+1) k)) w')
  (hld:∀ρ' w',ρ' (.tmp d0)=bc (w.heap.size+1) k->w'.cell? ⟨w.heap.size+1,k,none⟩=some lv->(execOp ρ' o1).run Tryz.prog w'=.ok (.value lv) w')
  (Ey:∀ρ' w',ρ' (.tmp 0)=ρ.ptr->(execOp ρ' o2).run Tryz.prog w'=.ok (.value ρ.ptr) w')
  (cL:∀ρ' w',oG ρ'->ρ' (.tmp d2)=ρ.ptr->(execOp ρ' o3).run Tryz.prog w'=.ok (.enter F #[ρ.ptr]) w')
  (Kd:∀ρ' w' y,ρ' (.tmp d3)=val y->(execOp ρ' o4).run Tryz.prog w'=.ok (.value (aL w'.heap.size 1 1)) (w'.alloc (.cells (E.f y).toArray T)))
  (hap:∀ρ' w' s v' F2,ρ' (.tmp d1)=lv->ρ' (.tmp d4)=s->(Builtin.append_ #[t,t] ty #[lv,s]).run Tryz.prog w'=.ok v' F2->(execOp ρ' o5).run Tryz.prog w'=.ok (.value v') F2)
  (ht:Tryz.prog.underlying t=some (.slice T)) (jB:(Tryz.prog.info? T).map (λ i=>(i.zero,i.size,i.bytes))=some (some z,E.size,bytes)) (hzs:z.cells.size=E.size) (hsz:0 < E.size) (hf:∀x,(E.f x).length=E.size) (h1:∀y,∀u∈E.f y,u.oneCell'=true)
  (ml:∀y s v' W,PuA E T ρ w (W.setCell ⟨w.heap.size+1,k,none⟩ v') r k v' (acc++ [x]) (cs.set k v') m d->W.cell? ⟨w.heap.size+1,k,none⟩=some lv->W.frozen? ⟨w.heap.size+1,k,none⟩=false->
    wpList Tryz.prog [o0,o1,o2,o3,o4,o5,o6,o7].toArray Q [o7] (((((((a0.put (some d0) (bc (w.heap.size+1) k)).put (some d1) lv).put (some d2) ρ.ptr).put (some d3) (val y)).put (some d4) s).put (some d5) v').put (some d6) (bc (w.heap.size+1) k)) W):
  (Code.region rid [o0,o1,o2,o3,o4,o5,o6,o7].toArray true).wp Tryz.prog Q a0 wr:=by
 obtain⟨ys,ho,ha⟩:=A.row.has;have hyl:ys.length=acc.length:=ha.len;have how:=λ G hG=>A.row.Qc (G:=G) hG
 have hwr:=A.blk.lt;refine Ja (P:=Tryz.prog) (f:=E.f) (val:=val) (e:=T) (size:=E.size) (base:=w.heap.size+2) (l:=ys) (lv:=lv) (Post:=afV E (λ _=>false) ρ (anV x r) (.good l) false) (w0:=wr) (qb:=w.heap.size+1) (k:=k) (g:=ρ.g) (ptr:=ρ.ptr) (F:=F) (args:= #[ρ.ptr]) t ty z bytes WC aZ hz hch Cm hq h0 hfa E9 hld Ey cL Kd hap ht jB hzs hsz hf h1 ho ((A.blk.cell k).trans (by simpa using A.cel)) TD (λ e'=>by have:=(how _ e').1;omega) (λ e'=>by have:=(how _ e').1;omega) (Nat.le_trans (Nat.mul_le_mul (show _<=65 by omega) hby) V0) TD TD ?_ ?_ ?_
 ·intro w' hw';refine(hc w' (A.did.at_.later hw')).mono ?_;rintro e w'' ⟨y,rfl,hx,hd⟩;exact⟨y,rfl,x,hx,by rw[Bool.or_false];exact hd,rfl⟩
 ·rintro y w' w'' ⟨x,hx,hd,hv⟩;exact hd.grown
 ·intro y s v' w4 w4' w5 W fJ hp hl2 ho2 bJ LK Ov Ez;obtain⟨_,_,dd,_⟩:=id hp;have hs1:=fJ.size;have hs2:=dd.size;have hs3:=hl2.size;obtain⟨x',hgr,hdd,XZ⟩:=Qf (E:=E) (T:=T) (lng:=λ _=>false) (B:=w.heap.size+2) (acc:=acc) TD ej A.row TD A.did fJ hp hl2 bJ ys LK ha Ov;obtain rfl:x'=x:=XZ;have hnq:∀(q:Nat),q < w.heap.size+2->some q≠lv.ownBlock:=λ q hq e'=>by have:=(how q e'.symm).1;omega
  have HX:=(((A.blk.later fJ).grown dd.grown Tab).later hl2).grown bJ (hnq _ TD);have HR:=(((A.res.later fJ).grown dd.grown Tab).later hl2).grown bJ (hnq _ TD);have kN:=HX.aT k v';simp only[setIfInBounds_toArray] at kN;refine ml y s v' W ⟨hgr.far TD k v',by have:=hdd.far ej (show w.heap.size<=w.heap.size+1 by omega) k v';rwa [Bool.or_false] at this,kN,HR.far (p:=⟨w.heap.size+1,k,none⟩) Taa v',Qu.at_.keep (Mj (show w.heap.size+1 < w.heap.size+2 by omega) k v') (Qu.at_.keep (Cr bJ Ov) (Qu.at_.keep (py hl2) (Qu.at_.keep (px dd.grown TD) (Qu.at_.keep (py fJ) A.at_)))),?_⟩ Ez (HX.frozen k);have:=A.cel;rw[getElem?_set_self (by rcases Nat.lt_or_ge k cs.length with h | h;exact h;rw[getElem?_eq_none h] at this;cases this)]
end Go.Proofs.YtndgjggokjickaaGreatDoor.R
