/- Parts of the proof. -/
import Derived.Test.YtndgjggokjickaaGreatDoorXW4
namespace Go.Proofs.YtndgjggokjickaaGreatDoor.R
open List
variable{p:Prop}
set_option maxHeartbeats 90000000
set_option maxRecDepth 100000
set_option linter.unusedSimpArgs false
set_option linter.unusedVariables false
variable{σ:ck}
theorem UO{s:List UInt8} (h:σ.head s=true):∃t r,σ=.good (t::r)/\iV s t=true:=by
 match σ with
 | .bad n=>simp[ck.head,ck.words,dI] at h
 | .good l=>obtain⟨t,r,e,ht⟩:=Lg (s:=s) (l:=l) h;exact⟨t,r,by rw[e],ht⟩
theorem jQ{s:List UInt8} (h:σ.head s=true):dp (may s) σ=.good σ.words.tail:=by rw[Lh,h];rfl
theorem je{s:List UInt8} (h:σ.head s=false):dp (may s) σ=σ:=by rw[Lh,h];rfl
theorem ry{s:List UInt8} (h:σ.head s=true):dp (must s) σ=.good σ.words.tail:=by rw[FM,h];rfl
theorem zN{s:List UInt8} (h:σ.head s=false):dp (must s) σ=.bad σ.left:=by rw[FM,h];rfl
def vR:List (List UInt8)->Ps Unit
 | []=>pure ()
 | s::ks=>do must s;vR ks
theorem uf (s:List UInt8)(ks:List (List UInt8))(σ:ck):dp (vR (s::ks)) σ=dp (vR ks) (dp (must s) σ):=UD (x:=()) (OX _ _)
theorem rz (σ:ck):dp (vR []) σ=σ:=UE _ _
theorem BQ (s:List UInt8)(σ:ck):dp (vR [s]) σ=dp (must s) σ:=by rw[uf,rz]
theorem sG (t:Wd)(r:dH):dp vM (.good (t::r))=if t.k=1/\sY t.s=false then .good r else .bad (r.length+1):=by
 simp only[dp,vM];by_cases h:t.k=1/\sY t.s=false
 ·simp only[h,and_self,if_true]
 ·simp only[h,if_false];rfl
theorem Pg (t:Wd)(r:dH):jZ vM (.good (t::r)) ⟨t.s.toArray⟩:=by
 simp only[jZ,vM];by_cases h:t.k=1/\sY t.s=false
 ·simp only[h,and_self,if_true]
 ·simp only[h,if_false]
theorem Lt (t:Wd)(r:dH):dp IB (.good (t::r))=if t.k=2 then .good r else .bad (r.length+1):=by
 simp only[dp,IB];by_cases h:t.k=2
 ·simp only[h,if_true]
 ·simp only[h,if_false];rfl
theorem UQ (t:Wd)(r:dH):jZ IB (.good (t::r)) t.n:=by
 simp only[jZ,IB];by_cases h:t.k=2
 ·simp only[h,if_true]
 ·simp only[h,if_false]
variable{α:Type}{n:Nat}
theorem oZ{p:Ps α}  (h:dp p σ=.bad n)(x:α):jZ p σ x:=by
 match σ with
 | .bad m=>trivial
 | .good l=>
   simp only[dp,jZ] at h ⊢
   cases e:p l with
   | error m=>trivial
   | ok y=>obtain⟨y,r⟩:=y;rw[e] at h;cases h
section
variable {s:List UInt8} {op:Int} {same below:Ps Tr} {σ:ck} {x:Tr}
end
open Go.ChangeShapes Go.WideShapes Go.ChangeAt Go.RowKit
def dt.ptr (ρ:dt):Value:=aw ρ.g
variable{ρ:dt}{w:World}{big:Bool}
theorem dt.at.facts(h:ρ.at w σ big):
  w.cell? ⟨ρ.g,0,none⟩=some (aI ρ.gl ρ.n ρ.c)/\w.cell? ⟨ρ.g,1,none⟩=some (af ((ρ.n:Int) - σ.left))/\w.cell? ⟨ρ.g,2,none⟩=some (af (ρ.bad σ))/\w.cell? ⟨ρ.g,3,none⟩=some (.bool big)/\
  w.frozen? ⟨ρ.g,1,none⟩=false/\w.frozen? ⟨ρ.g,2,none⟩=false/\w.frozen? ⟨ρ.g,3,none⟩=false:=
 ⟨h.blk.cell 0,h.blk.cell 1,h.blk.cell 2,h.blk.cell 3,h.blk.frozen 1,h.blk.frozen 2,h.blk.frozen 3⟩
theorem dt.at.place(h:ρ.at w σ big):((ρ.n:Int) - σ.left)=((ρ.n - σ.left:Nat):Int):=by have:=h.left;omega
theorem dt.at.Ss(h:ρ.at w σ big):decide (ρ.bad σ < 0)=σ.gT:=by
 have hl:=h.left
 match σ,hl with
 | .bad m,hl=>have e:ρ.bad (.bad m)=(ρ.n:Int) - m:=rfl;have e2:(ck.bad m).left=m:=rfl;rw[e2] at hl;rw[e];simp only[ck.gT,decide_eq_false_iff_not];omega
 | .good l,_=>rfl
theorem ZQ{s:ByteArray} {t:Wd}:iV s.data.toList t=((t.k==1 || t.k==4)&&(t.s==s.toList)):=by unfold iV;rw[ByteArray.toList_eq]
def pY:Obj:=.cells #[ag 0,au,af 0,af 0] 172
def dE (t:qY):Array Value:= #[ag t.w.k,.string ⟨t.w.s.toArray⟩,af t.w.n,af t.p]
structure aci (ρ:dt) (w:World) (t:qY) (pl:Nat) (bd:Int):Prop where
 c0:w.cell? ⟨ρ.g,0,none⟩=some (aI ρ.gl ρ.n ρ.c)
 c1:w.cell? ⟨ρ.g,1,none⟩=some (af pl)
 c2:w.cell? ⟨ρ.g,2,none⟩=some (af bd)
 d0:w.cell? ⟨ρ.gl,pl*4,none⟩=some (ag t.w.k)
 d1:w.cell? ⟨ρ.gl,pl*4+1,none⟩=some (.string ⟨t.w.s.toArray⟩)
 d2:w.cell? ⟨ρ.gl,pl*4+2,none⟩=some (af t.w.n)
 d3:w.cell? ⟨ρ.gl,pl*4+3,none⟩=some (af t.p)
variable{w':World}{pl:Nat}{bd:Int}
theorem aci.later{t:qY}  (h:aci ρ w t pl bd)(hb:aj w w'):aci ρ w' t pl bd:=by obtain⟨h0,h1,h2,h3,h4,h5,h6⟩:=h;exact⟨(hb.cell (jN h0)).trans h0,(hb.cell (jN h1)).trans h1,(hb.cell (jN h2)).trans h2,(hb.cell (jN h3)).trans h3,(hb.cell (jN h4)).trans h4,(hb.cell (jN h5)).trans h5,(hb.cell (jN h6)).trans h6⟩
theorem dt.at.vS(h:ρ.at w σ big):∃(t:qY) (pl:Nat) (bd:Int),pl=ρ.n - σ.left/\pl < ρ.n/\ρ.n<=5000/\bd=ρ.bad σ/\decide (bd < 0)=σ.gT/\(∀l,σ=.good l->∃r,l=t.w::r)/\0<=t.w.n/\t.w.n<=9223372036854775807/\aci ρ w t pl bd:=by obtain⟨t,ht,hg⟩:=h.next;obtain⟨d0,d1,d2,d3⟩:=h.cell _ t ht;obtain⟨c0,c1,c2,c3,f1,f2,f3⟩:=h.facts;have hl:=h.left;rw[h.place] at c1;have hn:=h.ZP t (mem_of_getElem? ht);exact⟨t,_,_,rfl,by omega,h.small,rfl,h.Ss,hg,hn.1,hn.2,c0,c1,c2,d0,d1,d2,d3⟩
theorem zgV.KbO(h:p:=by
 go_enter Tryz.func133,Tryz.ntmps133;go_wp2_with fail;go_region;clear c0 c1 c2 d0 d1 d2 d3 y0 y1 y2 z0 z1 z2 z3 x0 x1 v0 v1 v2 v3;obtain⟨u0,u1,u2,u3,_⟩:=bO HT;unfold dE at x2 u0 u1 u2 u3 hb;generalize (w.alloc _).drew=W at*;go_wp2_with fail
 all_goals
  go_ret;refine⟨lX ?_,hb⟩;rw[Xr.ae];generalize (t.w.s==s.toList)=X;cases X <;> rw[Bool.eq_iff_iff] <;> simp <;> omega):p:=h
theorem lF (ρ:dt)(w:World)(σ:ck)(big:Bool)(h:ρ.at w σ big)(s:ByteArray):
  ar 133 #[ρ.ptr,.string s] w λ e w'=>e=.returned (.bool (σ.head s.data.toList))/\aj w w':=by
 obtain⟨t,pl,bd,hpl,hlt,hsm,ug,cj,hg,JO,vz,hp⟩:=h.vS;have DO:=hp.later (ah w pY);have Lu:=hp.later ((ah w (.cells (dE t) 172)).drew)
 have hHD:σ.head s.data.toList=(decide (bd < 0)&&((t.w.k==1 || t.w.k==4)&&(t.w.s==s.toList))):=by
  rw[cj]
  match σ with
  | .bad m=>rfl
  | .good l=>obtain⟨r,rfl⟩:=hg l rfl;rw[<- ZQ];rfl
 have Xr:=aa hHD;have hb:=(ah w (.cells (dE t) 172)).drew;have HT:=(aB.new w 172 (dE t)).drew;clear hHD hpl hg cj ug h;unfold dt.ptr;generalize σ.head s.data.toList=R at*;open zgV in exact Zez
def BR (ρ:dt)(W:World)(yQ:ck)(big:Bool)(e:Ending)(w':World):Prop:=e=.returned (.tuple #[])/\eG ρ W w' yQ big
theorem pd (ρ:dt)(w:World)(σ:ck)(big:Bool)(h:ρ.at w σ big):
  ar 88 #[ρ.ptr] w (BR ρ w (.bad σ.left) big):=by
 obtain⟨c0,c1,c2,c3,f1,f2,f3⟩:=h.facts;have hlf:=h.left;have cj:=h.Ss;have TR:ck.of ρ.ws (.bad σ.left):=⟨(ck.OY h.of).1,(ck.OY h.of).2⟩;unfold dt.ptr;by_cases hg:ρ.bad σ < 0
 ·have hB:=aB.aU h.blk 2 (af ((ρ.n:Int) - σ.left));go_enter Tryz.func88,Tryz.ntmps88;go_wp2_with fail;go_end0;exact⟨rfl,h.set hB (aC (aR (Below.refl _ _)) 2 _) TR,aC (aR (Below.refl _ _)) 2 _⟩
 ·have ug:σ=.bad σ.left:=by
   match σ with
   | .bad m=>rfl
   | .good l=>exact absurd (by show(-1:Int)< 0;decide) hg
  have HBD:=aa ug;clear ug;go_enter Tryz.func88,Tryz.ntmps88;go_wp2_with fail;go_end0;rw[<- HBD.ae];exact⟨rfl,eG.refl h⟩
variable{l:dH}
theorem dt.at.step{t:Wd} (h:ρ.at w (.good (t::l)) big)(ht:t.k≠0):
  eG ρ w (w.setCell ⟨ρ.g,1,none⟩ (af ((ρ.n:Int) - l.length))) (.good l) big:=by have hB:=aB.aU h.blk 1 (af ((ρ.n:Int) - l.length));refine⟨h.set hB (aC (aR (Below.refl _ _)) 1 _) ⟨?_,h.of.2.tail ht⟩,aC (aR (Below.refl _ _)) 1 _⟩;exact(suffix_cons _ _).trans h.of.1
theorem rB (ρ:dt)(w:World)(σ:ck)(big:Bool)(h:ρ.at w σ big)(s:ByteArray):
  ar 87 #[ρ.ptr,.string s] w λ e w'=>e=.returned (.bool (σ.head s.data.toList))/\eG ρ w w' (dp (may s.data.toList) σ) big:=by
 have hw:=lF ρ w σ big h s;have Ph:ρ.ptr=aw ρ.g:=rfl;cases hh:σ.head s.data.toList
 ·rw[hh] at hw;rw[je hh];go_enter Tryz.func87,Tryz.ntmps87;go_wp2_with (go_at_call 133;refine hw.mono ?_;rintro e w1 ⟨rfl,b1⟩);go_ret;exact⟨rfl,eG.cY h b1⟩
 ·rw[hh] at hw;obtain⟨t,r,rfl,ht⟩:=UO hh;rw[jQ hh];go_enter Tryz.func87,Tryz.ntmps87;have HH:=aa h;have HK:=aa (alS ht);have hsm:=h.small;clear ht hh h;go_wp2_with (go_at_call 133;refine hw.mono ?_;rintro e w1 ⟨rfl,b1⟩;obtain⟨c0,c1,c2,c3,f1,f2,f3⟩:=(HH.ae.later b1).facts;have hlf:=(HH.ae.later b1).left;have e1:(ρ.n:Int) - (ck.good (t::r)).left+1=(ρ.n:Int) - r.length:=by(simp[ck.left];omega));go_ret;have hd:=dt.at.step (HH.ae.later b1) HK.ae;exact⟨rfl,(eG.cY HH.ae b1).trans hd⟩
variable{k:Nat}
theorem UR(h:pl=n - k)(hk:k<=n):(n:Int) - k=pl:=by omega
theorem zfQ.Kbq(h:p:=by
 by_cases hk:t.w.k=2
 ·have hd:=dt.at.step HF.ae (show t.w.k≠0 by omega);have s2:(W.setCell ⟨ρ.g,1,none⟩ (af ((ρ.n:Int) - r.length))).cell? ⟨w.heap.size,2,none⟩=some (af t.w.n):=(HB.ae.far (p:=⟨ρ.g,1,none⟩) Tab _).cell 2;go_wp2_with fail;go_ret;refine⟨t.w.n,JO,vz,rfl,?_,UQ _ _⟩;rw[Lt,if_pos hk];exact HD.ae.trans hd
 ·have g1:((t.w.k:Int) != 2)=true:=by simp;omega
  go_wp2_with (go_at_call 88;refine hwr.mono ?_;rintro e w1 ⟨rfl,d1⟩);go_ret;have e3:dp IB (.good (t.w::r))=.bad (r.length+1):=by rw[Lt,if_neg hk]
  refine⟨0,by omega,by omega,rfl,?_,oZ e3 _⟩;rw[e3];exact HD.ae.trans d1):p:=h
theorem zhq.Kb0(h:p:=by refine⟨0,by omega,by omega,rfl,?_,FL _ _ _⟩;exact HD.ae.trans d1):p:=h
theorem zgj.KbB(h:p:=by
 by_cases Em:bd < 0
 ·open zfQ in exact ZdP
 ·open zhq in exact Zfl):p:=h
theorem zdp.KaD(h:p:=by go_enter Tryz.func181,Tryz.ntmps181;open zgj in exact Zeh):p:=h
theorem UT (ρ:dt)(w:World)(σ:ck)(big:Bool)(h:ρ.at w σ big):
  ar 181 #[ρ.ptr] w λ e w'=>∃x:Int,0<=x/\x<=9223372036854775807/\e=.returned (af x)/\eG ρ w w' (dp IB σ) big/\jZ IB σ x:=by
 open zdp in exact Zbn
theorem zfR.Kbq(h:p:=by
 by_cases hk:t.w.k=1
 ·cases hr:sY t.w.s
  ·have HC:=aa (show t.w.k=1/\sY t.w.s=false from⟨hk,hr⟩);have hd0:=λ(W2:World) (hb2:aj W W2)=>dt.at.step (HF.ae.later hb2) (show t.w.k≠0 by omega)
   have Z4:=aa hd0;have hs0:=λ(W2:World) (hb2:aj W W2)=>(HB.ae.later hb2).cell 1
   have HS0:=aa hs0;have HX:=aa (λ(W2:World) (hb2:aj W W2)=>(HB.ae.later hb2).far (p:=⟨ρ.g,1,none⟩) Tab (af ((ρ.n:Int) - r.length)));rw[hr] at hres;have jI:=aa hres;clear hd0 hs0 hr hres;go_wp2_with (go_at_call 183;go_loud (refine jI.ae.mono ?_;rintro e w1 ⟨rfl,b1⟩;obtain⟨q0,q1,q2,q3,p1,p2,p3⟩:=(HF.ae.later b1).facts;have s1:=(HX.ae w1 b1).cell 1;have e2:(ρ.n:Int) - (ck.good (t.w::r)).left=pl:=(UR JR.ae hlf.2);rw[e2] at q1));go_ret;refine⟨⟨t.w.s.toArray⟩,rfl,?_,Pg _ _⟩;rw[sG,if_pos HC.ae];exact(HD.ae.later b1).trans (Z4.ae w1 b1)
  ·have e3:dp vM (.good (t.w::r))=.bad (r.length+1):=by rw[sG,if_neg (by rw[hr];simp)]
   have HE3:=aa e3;rw[hr] at hres;have jI:=aa hres;clear hr e3 hres;go_wp2_with (first
    |(go_at_call 183;refine jI.ae.mono ?_;rintro e w1 ⟨rfl,b1⟩)
    |(go_at_call 88;refine(pd ρ _ _ big (HF.ae.later b1)).mono ?_;rintro e w2 ⟨rfl,d1⟩))
   go_ret;refine⟨ByteArray.empty,rfl,?_,oZ HE3.ae _⟩;rw[HE3.ae];exact(HD.ae.later b1).trans d1
 ·have e3:dp vM (.good (t.w::r))=.bad (r.length+1):=by rw[sG,if_neg (by simp[hk])]
  have HE3:=aa e3;have g1:((t.w.k:Int) != 1)=true:=by simp;omega
  clear e3;go_wp2_with (go_at_call 88;refine hwr.mono ?_;rintro e w1 ⟨rfl,d1⟩);go_ret;refine⟨ByteArray.empty,rfl,?_,oZ HE3.ae _⟩;rw[HE3.ae];exact HD.ae.trans d1):p:=h
theorem zhr.Kb0(h:p:=by exact⟨ByteArray.empty,rfl,HD.ae.trans d1,FL _ _ _⟩):p:=h
theorem zgk.KbB(h:p:=by
 have hres:=Ek ⟨t.w.s.toArray⟩ W;have Au:(⟨t.w.s.toArray⟩:ByteArray).data.toList=t.w.s:=by simp
 rw[Au] at hres;by_cases Em:bd < 0
 ·open zfR in exact ZdP
 ·open zhr in exact Zfl):p:=h
theorem zdq.KaD(h:p:=by go_enter Tryz.func137,Tryz.ntmps137;open zgk in exact Zeh):p:=h
theorem acj (ρ:dt)(w:World)(σ:ck)(big:Bool)(h:ρ.at w σ big):
  ar 137 #[ρ.ptr] w λ e w'=>∃x:ByteArray,e=.returned (.string x)/\eG ρ w w' (dp vM σ) big/\jZ vM σ x:=by
 open zdq in exact Zbn
def bK (ks:List (List UInt8)):Array Value:=(ks.map strOf).toArray
variable{ks:List (List UInt8)}
theorem sH{b:Nat} (h:aB w b 9 (bK ks)) {i:Nat} {s:List UInt8}(hi:ks[i]?=some s):w.cell? ⟨b,i,none⟩=some (.string ⟨s.toArray⟩):=by rw[h.cell i];simp[bK,hi,strOf]
theorem ZR{l:List α} {i:Nat} {x:α}(h:l[i]?=some x):l.drop i=x::l.drop (i+1):=by obtain⟨hlt,he⟩:=List.getElem?_eq_some_iff.1 h;rw[drop_eq_getElem_cons hlt,he]
theorem BS (ks:List (List UInt8))(n:Nat):dp (vR ks) (.bad n)=.bad n:=rfl
theorem UU (ρ:dt)(w:World)(σ:ck)(big:Bool)(h:ρ.at w σ big)(ks:List (List UInt8))(b n:Nat)(hn:ks.length=n)(hb:aB w b 9 (bK ks))(hbg:ρ.g≠b)(hsm:n<=10):
  ar 138 #[ρ.ptr,aI b n n] w (BR ρ w (dp (vR ks) σ) big):=by
 have HH:=aa h;have HB:=aa hb;clear h hb;go_enter Tryz.func138,Tryz.ntmps138;go_wp2_with fail;go_loopw [4] (λ u wr=>∃(i:Nat) (yQ:ck),i<=n/\u=af i/\eG ρ w wr yQ big/\dp (vR ks) σ=dp (vR (ks.drop i)) yQ) (λ u _=>n - (intOf u).toNat);case atStart=>exact⟨0,σ,Nat.zero_le _,rfl,eG.refl HH.ae,rfl⟩
 case round=>
  obtain⟨i,yQ,hi,rfl,hD,hst⟩:=hrel;have HD:=aa hD;have HS:=aa hst;clear hD hst;by_cases hlt:i < n
  ·obtain⟨s,hs⟩:∃s,ks[i]?=some s:=⟨_,getElem?_eq_getElem WC⟩;have hc:=sH (HD.ae.blk HB.ae (λ e=>hbg e.symm)) hs;have uO:=aa (ZR hs);clear hs;have hm:=rB ρ wr yQ big HD.ae.at_ ⟨s.toArray⟩;cases hh:yQ.head s
   ·have Xr:=aa hh;rw[show yQ.head (⟨s.toArray⟩:ByteArray).data.toList=false from hh,je (s:=(⟨s.toArray⟩:ByteArray).data.toList) hh] at hm;clear hh;go_wp2_with (first
     |(go_at_call 87;refine hm.mono ?_;rintro e w1 ⟨rfl,d1⟩)
     |(go_at_call 88;refine(pd ρ _ _ big d1.at_).mono ?_;rintro e w2 ⟨rfl,d2⟩))
    go_end0;refine⟨rfl,?_⟩;rw[HS.ae,uO.ae,uf,zN Xr.ae,BS];exact HD.ae.trans (d1.trans d2)
   ·have Xr:=aa hh;rw[show yQ.head (⟨s.toArray⟩:ByteArray).data.toList=true from hh,jQ (s:=(⟨s.toArray⟩:ByteArray).data.toList) hh] at hm;clear hh;go_wp2_with (first
     |(go_at_call 87;refine hm.mono ?_;rintro e w1 ⟨rfl,d1⟩))
    go_roundw;case rel=>refine⟨i+1,_,by omega,by go_num,HD.ae.trans d1,?_⟩;rw[HS.ae,uO.ae,uf,ry Xr.ae]
    case measure=>exact Za0
  ·obtain rfl:i=n:=by omega
   have hd:ks.drop i=[]:=drop_eq_nil_of_le WC;rw[hd] at HS;go_wp2_with fail;go_end0;refine⟨rfl,?_⟩;rw[HS.ae,rz];exact HD.ae
theorem FQ (ρ:dt)(w:World)(σ:ck)(big:Bool)(h:ρ.at w σ big)(n:Nat)(hn:n<=1000000):
  ar 140 #[ρ.ptr,af n] w λ e w'=>e=.returned (.bool (σ.head dL))/\eG ρ w w' (dp (may dL) σ) (big || decide (64 < n)):=by
 have Ph:ρ.ptr=aw ρ.g:=rfl;obtain⟨c0,c1,c2,c3,f1,f2,f3⟩:=h.facts;by_cases h64:64 < n
 ·have hB:=aB.aU h.blk 3 (.bool true);have hg:w.grownBy (w.setCell ⟨ρ.g,3,none⟩ (.bool true)) (some ρ.g):=aC (aR (Below.refl _ _)) 3 _;have hat:ρ.at (w.setCell ⟨ρ.g,3,none⟩ (.bool true)) σ true:=h.set hB hg h.of;have hm:=rB ρ _ σ true hat ⟨#[44]⟩;have e1:(big || decide (64 < n))=true:=by simp[h64]
  have hn:(64:Int)< n:=by omega
  rw[e1];clear h hat hB e1;unfold dt.ptr at*;go_enter Tryz.func140,Tryz.ntmps140;go_wp2_with (first
   |(go_at_call 87;refine hm.mono ?_;rintro e w1 ⟨rfl,d1⟩))
  go_ret;exact⟨rfl,⟨d1.at_,aY hg d1.grown⟩⟩
 ·have hm:=rB ρ _ σ big h ⟨#[44]⟩;have e1:(big || decide (64 < n))=big:=by simp[h64]
  have hn:¬(64:Int)< n:=by omega
  rw[e1];clear h e1;unfold dt.ptr at*;go_enter Tryz.func140,Tryz.ntmps140;go_wp2_with (first
   |(go_at_call 87;refine hm.mono ?_;rintro e w1 ⟨rfl,d1⟩))
  go_ret;exact⟨rfl,d1⟩
def kK (lv:Nat)(t:Wd):Int:=(Zs (opsL lv) [t]).getD 0
variable{lv:Nat}
theorem ahq{t:Wd}(h1:t.k≠1)(h4:t.k≠4):kK lv t=0:=by
 unfold kK
 have:∀ks,Zs ks [t]=none:=by
  intro ks
  induction ks with
  | nil=>rfl
  | cons a ks ih=>obtain⟨s,o⟩:=a;simp[Zs,dI,iV,h1,h4,ih]
 rw[this];rfl
theorem Su{t:Wd}(h:t.k=1\/t.k=4):kK lv t=((opsL lv).lookup t.s).getD 0:=by
 unfold kK;congr 1;have hk:(t.k==1 || t.k==4)=true:=by rcases h with h | h <;> simp[h]
 generalize opsL lv=ks
 induction ks with
 | nil=>rfl
 | cons a ks ih=>obtain⟨s,o⟩:=a;simp only[Zs,dI,iV,hk,Bool.true_and,List.lookup];rw[ih];cases e:(t.s==s)<;> simp
def sI (lv:Nat)(t:Wd)(w:World)(e:Ending)(w':World):Prop:=e=.returned (ag (kK lv t))/\aj w w'
theorem mS (lv:Nat)(hlv:lv=0\/lv=1\/lv=4\/lv=5)(t:qY)(w:World)(hk:t.w.k=1\/t.w.k=4):
  ar 200 #[af lv,.agg (dE t)] w (sI lv t.w w):=by
 have HR:=aa (Su (lv:=lv) hk);have hb:=ah w (.cells (dE t) 172);obtain⟨u0,u1,u2,u3,_⟩:=bO (aB.new w 172 (dE t));unfold sI;unfold dE at*;rcases hk with hk | hk
 ·have n1:((t.w.k:Int) != 1)=false:=by simp;omega
  exact ZcM
 ·have n1:((t.w.k:Int) != 1)=true:=by simp;omega
  have n2:((t.w.k:Int) != 4)=false:=by simp;omega
  exact ZcM
def ld:List (List UInt8):=[[61],[60,62],[60],[60,61],[62],[62,61]]
theorem ZT{x:List UInt8} {i:Nat}(hi:i < 6):∃y,ld[i]?=some y/\((opsL 3).drop i).lookup x=if x==y then some ((10:Int)+i)else((opsL 3).drop (i+1)).lookup x:=by
 rcases(by omega:i=0\/i=1\/i=2\/i=3\/i=4\/i=5)with rfl | rfl | rfl | rfl | rfl | rfl <;> refine⟨_,rfl,?_⟩<;> simp[opsL,List.lookup,alN,alO,alP,alQ,aha,alR] <;> split <;> simp_all
theorem Pj (t:qY)(w:World)(hk:t.w.k=1\/t.w.k=4):
  ar 200 #[af (3:Nat),.agg (dE t)] w (sI 3 t.w w):=by
 have HR:=aa (Su (lv:=3) hk);obtain⟨u0,u1,u2,u3,_⟩:=bO (aB.new w 172 (dE t))
 have hn:(((t.w.k:Int) != 1)=false)\/((((t.w.k:Int) != 1)=true)/\(((t.w.k:Int) != 4)=false)):=by
  rcases hk with hk | hk
  ·exact .inl Tab
  ·exact .inr ⟨by simp;omega,by simp;omega⟩
 clear hk;have b1:=ai.then (ah w (.cells (dE t) 172)) (ah _ (.cells (bK ld) 9));have B1:=(aB.new w 172 (dE t)).alloc (.cells (bK ld) 9);have B2:=aB.new (w.alloc (.cells (dE t) 172)) 9 (bK ld);rw[World.size_alloc] at B2;have eB:=aa B1;have fG:=aa B2;have hb:=aa b1;clear B1 B2 b1;unfold sI;have amf:bK ld= #[.string ⟨#[61]⟩,.string ⟨#[60,62]⟩,.string ⟨#[60]⟩,.string ⟨#[60,61]⟩,.string ⟨#[62]⟩,.string ⟨#[62,61]⟩]:=rfl;rw[amf] at eB fG hb;unfold dE at*;generalize kK 3 t.w=R at*
 rcases hn with n1 |⟨n1,n2⟩;all_goals
  go_enter Tryz.func200,Tryz.ntmps200;go_wp2_with fail;clear u0 u1 u2 u3;generalize (w.alloc _).alloc _=W at*;go_loopw [6] (λ u wr=>∃k:Nat,k<=6/\u=af k/\aj W wr/\(opsL 3).lookup t.w.s=((opsL 3).drop k).lookup t.w.s) (λ u _=>6 - (intOf u).toNat);case atStart=>exact⟨0,Nat.zero_le _,rfl,Below.refl _ _,rfl⟩
  case round=>
   obtain⟨k,hi,rfl,hP,hlk⟩:=hrel;have DU:=aa hlk;have HP:=aa hP;clear hlk hP;by_cases hlt:k < 6
   ·obtain⟨y,hy,hstep⟩:=ZT (x:=t.w.s) hlt;have HST:=aa hstep;have c2:=(fG.ae.later HP.ae).cell k;rw[<- amf,show(bK ld)[k]?=some (.string ⟨y.toArray⟩) by simp[bK,hy,strOf]] at c2;have c1:=(eB.ae.later HP.ae).cell 1;have sX:k < 6:=hlt;clear hy hstep;cases he:(t.w.s==y)
    ·have HE:=aa he;have t1:(y==t.w.s)=false:=by rw[beq_eq_false_iff_ne] at he ⊢;exact λ e=>he e.symm
     clear he;go_wp2_with fail;go_region;go_wp2_with fail;go_roundw;case rel=>refine⟨k+1,by omega,by go_num,HP.ae.drew,?_⟩;rw[DU.ae,HST.ae,HE.ae];rfl
     case measure=>simp[intOf];omega
    ·have HE:=aa he;have t1:(y==t.w.s)=true:=by rw[beq_iff_eq] at he ⊢;exact he.symm
     clear he;go_wp2_with fail;go_region;go_wp2_with fail;go_ret;refine⟨?_,ai.then hb.ae HP.ae.drew⟩;rw[HR.ae,DU.ae,HST.ae,HE.ae];refine mP ?_;rcases(by omega:k=0\/k=1\/k=2\/k=3\/k=4\/k=5)with rfl | rfl | rfl | rfl | rfl | rfl <;> rfl
   ·obtain rfl:k=6:=by omega
    go_wp2_with fail;go_ret;rw[HR.ae,DU.ae];exact⟨rfl,ai.then hb.ae HP.ae⟩
theorem Pk (lv:Nat)(hlv:lv=0\/lv=1\/lv=3\/lv=4\/lv=5)(t:qY)(w:World):
  ar 200 #[af lv,.agg (dE t)] w (sI lv t.w w):=by
 by_cases hk:t.w.k=1\/t.w.k=4
 ·rcases hlv with rfl | rfl | rfl | rfl | rfl
  ·exact mS 0 Tac t w hk
  ·exact mS 1 Tac t w hk
  ·exact Pj t w hk
  ·exact mS 4 Tac t w hk
  ·exact mS 5 Tac t w hk
 ·have hb:=ah w (.cells (dE t) 172);obtain⟨u0,u1,u2,u3,_⟩:=bO (aB.new w 172 (dE t));unfold sI;unfold dE at*;have HR:=aa (ahq (lv:=lv) (λ e=>hk (.inl e)) (λ e=>hk (.inr e)));generalize kK lv t.w=R at*;have n1:((t.w.k:Int) != 1)=true:=by simp;omega
  have n2:((t.w.k:Int) != 4)=true:=by simp;omega
  go_enter Tryz.func200,Tryz.ntmps200;go_wp2_with fail;go_ret;rw[HR.ae];exact⟨rfl,hb⟩
def qp:Obj:=.cells #[ag 0,ag 0,af 0,au,au,af 0,az] 46
variable{q:Nat}{y:Ex}
theorem dr(h:aB w q 46 (bF y).toArray):
  w.cell? ⟨q,0,none⟩=some (ag y.op)/\w.cell? ⟨q,1,none⟩=some (ag y.v.k)/\w.cell? ⟨q,2,none⟩=some (af y.v.n)/\w.cell? ⟨q,3,none⟩=some (.string y.v.s)/\w.cell? ⟨q,4,none⟩=some (.string y.name)/\w.cell? ⟨q,5,none⟩=some (af y.width)/\w.cell? ⟨q,6,none⟩=some (.slice y.A y.n y.c):=
 ⟨h.cell 0,h.cell 1,h.cell 2,h.cell 3,h.cell 4,h.cell 5,h.cell 6⟩
variable{T:TypeId}{c d e f g:Value}
theorem bR{a b:Value}(h:aB w q T #[a,b,c,d,e,f,g]):
  w.cell? ⟨q,0,none⟩=some a/\w.cell? ⟨q,1,none⟩=some b/\w.cell? ⟨q,2,none⟩=some c/\w.cell? ⟨q,3,none⟩=some d/\w.cell? ⟨q,4,none⟩=some e/\w.cell? ⟨q,5,none⟩=some f/\w.cell? ⟨q,6,none⟩=some g:=
 ⟨h.cell 0,h.cell 1,h.cell 2,h.cell 3,h.cell 4,h.cell 5,h.cell 6⟩
variable{cs:Array Value}
theorem eo(h:aB w q 46 cs):
  w.frozen? ⟨q,0,none⟩=false/\w.frozen? ⟨q,1,none⟩=false/\w.frozen? ⟨q,2,none⟩=false/\w.frozen? ⟨q,3,none⟩=false/\w.frozen? ⟨q,4,none⟩=false/\w.frozen? ⟨q,5,none⟩=false/\w.frozen? ⟨q,6,none⟩=false:=
 ⟨h.frozen 0,h.frozen 1,h.frozen 2,h.frozen 3,h.frozen 4,h.frozen 5,h.frozen 6⟩
def dV (w:World)(q:Nat)(y:Ex):World:=((((((w.setCell ⟨q,0,none⟩ (ag y.op)).setCell ⟨q,1,none⟩ (ag y.v.k)).setCell ⟨q,2,none⟩ (af y.v.n)).setCell ⟨q,3,none⟩ (.string y.v.s)).setCell ⟨q,4,none⟩ (.string y.name)).setCell ⟨q,5,none⟩ (af y.width)).setCell ⟨q,6,none⟩ (.slice y.A y.n y.c)
theorem ep{a b:Value}(h:aB w q T #[a,b,c,d,e,f,g])(y:Ex):aB (dV w q y) q T (bF y).toArray:=by have:=((((((h.aU 0 (ag y.op)).aU 1 (ag y.v.k)).aU 2 (af y.v.n)).aU 3 (.string y.v.s)).aU 4 (.string y.name)).aU 5 (af y.width)).aU 6 (.slice y.A y.n y.c);exact ZdE
theorem UW{p:Nat}  (h:aB w p T cs)(hp:p≠q)(y:Ex):aB (dV w q y) p T cs:=
 ((((((h.far (p:=⟨q,0,none⟩) hp _).far (p:=⟨q,1,none⟩) hp _).far (p:=⟨q,2,none⟩) hp _).far (p:=⟨q,3,none⟩) hp _).far (p:=⟨q,4,none⟩) hp _).far (p:=⟨q,5,none⟩) hp _).far (p:=⟨q,6,none⟩) hp _
variable{W:World}
theorem eG.dV(h:eG ρ W w σ big)(hW:ρ.g < W.heap.size)(hq:W.heap.size<=q)(y:Ex):eG ρ W (dV w q y) σ big:=
 ((((((h.far hW hq 0 _).far hW hq 1 _).far hW hq 2 _).far hW hq 3 _).far hW hq 4 _).far hW hq 5 _).far hW hq 6 _
theorem aeV{S:World->Nat->Prop}(hs:∀(w:World) (i:Nat) (u:Value),∀b,S w b->(∀o,(w.setCell ⟨q,i,none⟩ u).cell? ⟨b,o,none⟩=w.cell? ⟨b,o,none⟩)/\S (w.setCell ⟨q,i,none⟩ u) b)(y:Ex):∀b,S w b->(∀o,(Go.Proofs.YtndgjggokjickaaGreatDoor.R.dV w q y).cell? ⟨b,o,none⟩=w.cell? ⟨b,o,none⟩)/\S (Go.Proofs.YtndgjggokjickaaGreatDoor.R.dV w q y) b:=by intro b hb;obtain⟨c0,s0⟩:=hs w 0 (ag y.op) b hb;obtain⟨c1,s1⟩:=hs _ 1 (ag y.v.k) b s0;obtain⟨c2,s2⟩:=hs _ 2 (af y.v.n) b s1;obtain⟨c3,s3⟩:=hs _ 3 (.string y.v.s) b s2;obtain⟨c4,s4⟩:=hs _ 4 (.string y.name) b s3;obtain⟨c5,s5⟩:=hs _ 5 (af y.width) b s4;obtain⟨c6,s6⟩:=hs _ 6 (.slice y.A y.n y.c) b s5;exact⟨λ o=>(c6 o).trans ((c5 o).trans ((c4 o).trans ((c3 o).trans ((c2 o).trans ((c1 o).trans (c0 o)))))),s6⟩
variable{B:Nat}{t:Tr}
theorem Tr.at_.dV(h:t.at_ w (jm B w) y)(hq:q < B)(z:Ex):t.at_ (dV w q z) (jm B (Go.Proofs.YtndgjggokjickaaGreatDoor.R.dV w q z)) y:=Tr.at_.keep (aeV (S:=λ w=>jm B w) (λ w i u=>sD hq i u) z) t y h
section
variable {lv:Nat} {σ yQ:ck} {x y:Tr} {o:Int}
end
theorem BU (lv:Nat)(z:Int)(hz:z=lv)(hlv:lv=0\/lv=1\/lv=3\/lv=4\/lv=5)(t:qY)(w:World):
  ar 200 #[af z,.agg #[ag t.w.k,.string ⟨t.w.s.toArray⟩,af t.w.n,af t.p]] w λ e w'=>e=.returned (ag (kK lv t.w))/\aj w w':=by subst hz;exact Pk lv hlv t w
def uh (y:Ex):Obj:=.cells (bF y).toArray 46
def zO (y z:Ex):Obj:=.cells (bF y++bF z).toArray 46
section
variable {σ yQ:ck} {x y:Tr} {o:Int}
end
section
variable {t:Wd} {r:dH} {x:Tr}
structure Plain (t:Wd):Prop where
 i:t.k≠2
 s:t.k≠3
structure Lx (t:Wd):Prop where
 p:Plain t
 wt:iV OM t=false
 wf:iV Ap t=false
 wn:iV Zo t=false
 wo:iV eE t=false
end
section
variable {n:ByteArray} {σ:ck} {z:Tr} {op:Int}
end
theorem FT (v:Val)(w:World):ar 208 #[.agg #[ag v.k,af v.n,.string v.s]] w λ e w'=>e=.returned (.agg #[ag 1,ag v.k,af v.n,.string v.s,au,af 0,az])/\aj w w':=by go_enter Tryz.func208,Tryz.ntmps208;go_wp2_with fail;refine bodyPost_ret (v:=.agg #[ag 1,ag v.k,af v.n,.string v.s,au,af 0,az]) ?_ rfl ⟨rfl,ai.then (ah w _) (ah _ _)⟩;simp[results,Tryz.results208,go_sem]
theorem cq (ρ:dt)(w:World)(σ:ck)(big:Bool)(h:ρ.at w σ big)(s:ByteArray)(hh:σ.head s.data.toList=false):
  ar 87 #[ρ.ptr,.string s] w λ e w'=>e=.returned (.bool false)/\eG ρ w w' σ big:=by have:=rB ρ w σ big h s;rw[hh,je hh] at this;exact this
theorem nT (ρ:dt)(w:World)(σ:ck)(big:Bool)(h:ρ.at w σ big)(s:ByteArray)(hh:σ.head s.data.toList=true):
  ar 87 #[ρ.ptr,.string s] w λ e w'=>e=.returned (.bool true)/\eG ρ w w' (.good σ.words.tail) big:=by have:=rB ρ w σ big h s;rw[hh,jQ hh] at this;exact this
section
variable {P:Program} {l zs:List Oper} {Q:Exit->Act->World->Prop} {u:Nat->Value} {ch:List Nat} {G:List Value->World->Prop} {a0:Act} {w0:World}
end
theorem _root_.Go.Proofs.YtndgjggokjickaaGreatDoor.ai.cell{a b:World}(h:ai a b) {p:Addr}(hp:p.block < a.heap.size):b.cell? p=a.cell? p:=Below.cell h hp
theorem pj{a b:World} {row:Option Nat}(h:a.grownBy b row) {p:Addr}(hp:p.block < a.heap.size)(hr:some p.block≠row):b.cell? p=a.cell? p:=by unfold World.cell?;rw[h.block p.block hp hr]
def BV (o0 o1 o2 o3 o4 o5 o6:Oper)(q d0 d1 d2 d3 d4 d5 d6:Tmp):Bool:=
 (tmpsOf o0== [q])&&(cW [o0,o1,o2,o3,o4,o5,o6] o0 q==none)&&(tmpsOf o1== [d0])&&(cW [o0,o1,o2,o3,o4,o5,o6] o1 d0==some 0)&&
 (tmpsOf o2== [0])&&(cW [o0,o1,o2,o3,o4,o5,o6] o2 0==none)&&(tmpsOf o3== [d2])&&(cW [o0,o1,o2,o3,o4,o5,o6] o3 d2==some 2)&&
 (tmpsOf o4== [d3])&&(cW [o0,o1,o2,o3,o4,o5,o6] o4 d3==some 3)&&(tmpsOf o5== [d1,d4])&&(cW [o0,o1,o2,o3,o4,o5,o6] o5 d1==some 1)&&(cW [o0,o1,o2,o3,o4,o5,o6] o5 d4==some 4)&&
 (tmpsOf o6== [q])&&(cW [o0,o1,o2,o3,o4,o5,o6] o6 q==none)&&
 (o0.dst==some d0)&&(o1.dst==some d1)&&(o2.dst==some d2)&&(o3.dst==some d3)&&(o4.dst==some d4)&&(o5.dst==some d5)&&(o6.dst==some d6)&&
 o0.guard.isNone && o1.guard.isNone && o2.guard.isNone && o3.guard.isNone && o4.guard.isNone && o5.guard.isNone && o6.guard.isNone
section
variable {P:Program} {β:Type} (f:β->List Value) (val:β->Value) (e:TypeId) (size base:Nat) (l:List β) (lv:Value) (Post:β->World->World->Prop) (w0:World)
def Sv:List Value->World->Prop
 | [],w=>ai w0 w
 | [a],w=>∃y w1 gG,a=val y/\ai w0 w1/\Post y w1 gG/\ai gG w
 | [a,s],w=>∃y w1 gG g0,a=val y/\s=aI g0 1 1/\ai w0 w1/\Post y w1 gG/\ai gG w/\aB w g0 e (f y).toArray
 | [a,s,v],w=>∃y w1 gG w2,a=val y/\ai w0 w1/\Post y w1 gG/\ai gG w2/\aF f e size w2 base lv l/\w2.grownBy w lv.ownBlock/\aF f e size w base v (l++ [y])/\(lv=az->l=[]->aF f e size w w2.heap.size v [y])
 | _,_=>False
theorem Pl (vs:List Value)(w:World)(h:Sv f val e size base l lv Post w0 vs w):Sv f val e size base l lv Post w0 vs w.drew:=by
 match vs,h with
 | [],h=>exact ai.trans h (ai.drew _)
 | [a],⟨y,w1,gG,h1,h2,h3,h4⟩=>exact⟨y,w1,gG,h1,h2,h3,h4.trans (ai.drew _)⟩
 | [a,s],⟨y,w1,gG,g0,h1,h2,h3,h4,h5,h6⟩=>exact Zhl
 | [a,s,v],⟨y,w1,gG,w2,h1,h2,h3,h4,h5,h6,h7,h8⟩=>exact⟨y,w1,gG,w2,h1,h2,h3,h4,h5,⟨h6.os,h6.tape,h6.output,h6.size,h6.block⟩,h7.later (ai.drew _),λ a b=>(h8 a b).later (ai.drew _)⟩
 | _::_::_::_::_,h=>exact h.elim
variable {f val e size base l lv Post w0}
variable {Q:Exit->Act->World->Prop} {a0:Act} {id:Nat} {o0 o1 o2 o3 o4 o5 o6 o7:Oper} {q d0 d1 d2 d3 d4 d5 d6:Tmp} {qb k g:Nat} {pq ptr:Value} {F:FuncId} {args:Array Value}
theorem zcq.Kar(h:p:=by
 have BX:∀vs w,Sv f val e size base l lv Post w0 vs w->w.cell? ⟨qb,k,none⟩=some lv:=by exact ZbQ
 refine oQ [o7] [o0,o1,o2,o3,o4,o5,o6] rfl (λ i=>if i=0 then ba qb k else if i=1 then lv else if i=2 then ptr else ba qb k) [3,4,5] (Sv f val e size base l lv Post w0) (Pl f val e size base l lv Post w0) (ai.refl w0) hm aZ hz hch Taa rfl ?_ ?_
 ·refine⟨Zdg,Zfw,Zdj,Zcz,ZbS,?_,Zdk,trivial⟩
  ·intro ρ w vs hc hG hr;rw[t5] at hr;have r0:=hr.1;have r1:=hr.2.1;simp only[s5] at r0;simp only[s5'] at r1;refine⟨g5,?_⟩;show vs.length=2->_;intro hl
   match vs,hl with
   | [a,s],_=>
     have r1:some s=some (ρ (.tmp d4)):=r1;injection r1 with r1;obtain⟨y,w1,gG,gg,ha,hs,h2,h3,h4,h5⟩:=hG;obtain⟨k1,k2,k3⟩:=vT h2 h3 h4;obtain⟨v',w',hrun,ho,yy⟩:=fc (P:=P) (w:=w) t ty z bytes ht jr hzs hsz hf (h1 y) k2 gg h5 hlen mD (Nat.le_trans hbase k3);refine aq (hap ρ w _ v' w' r0 (r1.symm.trans hs) hrun) ⟨y,w1,gG,w,ha,h2,h3,h4,k2,yy.grown,ho,?_⟩;intro hlv hl0;subst hl0;have k4:aF f e size w w.heap.size lv ([]:List β):=by rw[hlv];exact aF.nil
     obtain⟨v2,ZV,aeW,Rx,_⟩:=fc (P:=P) (w:=w) t ty z bytes ht jr hzs hsz hf (h1 y) k4 gg h5 hlen mD (Nat.le_refl _);rw[hrun] at aeW;injection aeW with e1 e2;rw[e1,e2];exact Rx
 ·exact Zbw):p:=h
theorem yR (t ty:TypeId)(z:Value)(bytes:Nat)
  (hm:P.follows .mixedOrders=true) (aZ:dN [o0,o1,o2,o3,o4,o5,o6] a0.tmps.size [o0,o1,o2,o3,o4,o5,o6] 0=true) (hz:eL [o0,o1,o2,o3,o4,o5,o6,o7] [o7] 7=true) (hch:lg [o0,o1,o2,o3,o4,o5,o6] [3,4,5]=true) (BW:BV o0 o1 o2 o3 o4 o5 o6 q d0 d1 d2 d3 d4 d5 d6=true)
  (hq:a0.eval (.tmp q)=pq) (h0:a0.eval (.tmp 0)=ptr)
  (hfa:∀ρ w,ρ (.tmp q)=pq->(execOp ρ o0).run P w=.ok (.value (ba qb k)) w) (ZU:∀ρ w,ρ (.tmp q)=pq->(execOp ρ o6).run P w=.ok (.value (ba qb k)) w)
  (hld:∀ρ w,ρ (.tmp d0)=ba qb k->w.cell? ⟨qb,k,none⟩=some lv->(execOp ρ o1).run P w=.ok (.value lv) w)
  (En:∀ρ w,ρ (.tmp 0)=ptr->(execOp ρ o2).run P w=.ok (.value ptr) w)
  (cf:∀ρ w,oz ρ->ρ (.tmp d2)=ptr->(execOp ρ o3).run P w=.ok (.enter F args) w)
  (JM:∀ρ w y,ρ (.tmp d3)=val y->(execOp ρ o4).run P w=.ok (.value (aI w.heap.size 1 1)) (w.alloc (.cells (f y).toArray e)))
  (hap:∀ρ w s v' w',ρ (.tmp d1)=lv->ρ (.tmp d4)=s->(Builtin.append_ #[t,t] ty #[lv,s]).run P w=.ok v' w'->(execOp ρ o5).run P w=.ok (.value v') w')
  (ht:P.underlying t=some (.slice e)) (jr:(P.info? e).map (λ i=>(i.zero,i.size,i.bytes))=some (some z,size,bytes)) (hzs:z.cells.size=size) (hsz:0 < size) (hf:∀x,(f x).length=size) (h1:∀y,∀u∈f y,u.oneCell'=true)
  (hown:aF f e size w0 base lv l) (hcell:w0.cell? ⟨qb,k,none⟩=some lv) (TK:qb≠g) (Xs:lv.ownBlock≠some g) (hlq:lv.ownBlock≠some qb) (hlen:(l.length+1)*bytes<=140737488355328) (mD:l.length+1<=140737488355328) (hbase:base<=w0.heap.size)
  (lQ:∀w,ai w0 w->Calls P F args w λ e w'=>∃y,e=.returned (val y)/\Post y w w') (Sx:∀y w w',Post y w w'->w.grownBy w' (some g))
  (lZ:∀y s v' w1 gG w2 W,ai w0 w1->Post y w1 gG->ai gG w2->aF f e size w2 base lv l->w2.grownBy W lv.ownBlock->aF f e size W base v' (l++ [y])->(lv=az->l=[]->aF f e size W w2.heap.size v' [y])->W.cell? ⟨qb,k,none⟩=some lv->
    wpList P [o0,o1,o2,o3,o4,o5,o6,o7].toArray Q [o7] (((((((a0.put (some d0) (ba qb k)).put (some d1) lv).put (some d2) ptr).put (some d3) (val y)).put (some d4) s).put (some d5) v').put (some d6) (ba qb k)) W):
  (Code.region id [o0,o1,o2,o3,o4,o5,o6,o7].toArray true).wp P Q a0 w0:=by
 open zcq in exact ZaS
end
def td:List (List UInt8):=[[98,117,99,107,101,116],[99,111,117,110,116],[115,117,109],[109,105,110],[109,97,120],[97,118,103],[102,105,114,115,116],[108,97,115,116]]
def my:List Int:=[20,22,23,24,25,26,27,28]
def xH (l:List Int):Array Value:=(l.map λ o=>Value.int .u8 o).toArray
theorem BZ{x:List UInt8} {i:Nat}(hi:i < 8):∃y o,td[i]?=some y/\my[i]?=some o/\(OT.drop i).lookup x=if x==y then some o else(OT.drop (i+1)).lookup x:=by
 rcases(by omega:i=0\/i=1\/i=2\/i=3\/i=4\/i=5\/i=6\/i=7)with rfl | rfl | rfl | rfl | rfl | rfl | rfl | rfl <;> refine⟨_,_,rfl,rfl,?_⟩<;> simp[OT,List.lookup,BI,Iy,Zq,aeR,aeS,aeT,Sc,Zr] <;> split <;> simp_all
section
variable {W:Ps Tr} {σ:ck} {x y:Tr} {op k:Int}
end
variable{W0:World}
theorem eG.own{row:Option Nat}(h:eG ρ W0 w σ big)(hg:ρ.g < W0.heap.size)(k:w.grownBy w' row)(hr:∀G,row=some G->W0.heap.size<=G):eG ρ W0 w' σ big:=by
 have hl:=h.at_.lt;have hs:=h.size;have ng:some ρ.g≠row:=λ e=>by have:=hr _ e.symm;omega
 have nl:some ρ.gl≠row:=λ e=>by have:=hr _ e.symm;omega
 refine⟨⟨h.at_.blk.grown k ng,hl,λ j t ht=>?_,h.at_.of,h.at_.small,h.at_.ZP⟩,k.os.trans h.grown.os,k.tape.trans h.grown.tape,k.output.trans h.grown.output,Nat.le_trans hs k.size,λ i hi hne=>?_⟩
 ·have hc:=cell_of_heap (k.block ρ.gl WC nl);obtain⟨h1,h2,h3,h4⟩:=h.at_.cell j t ht;exact⟨(hc _).trans h1,(hc _).trans h2,(hc _).trans h3,(hc _).trans h4⟩
 ·rw[k.block i WC (λ e=>by have:=hr _ e.symm;omega)];exact h.grown.block i hi hne
variable{size base:Nat}{v:Value}{S:Nat->Prop}
theorem Pm{f:α->List Value} {e:TypeId} (hf:∀x,(f x).length=size)    {l:List α}(h:aF f e size w base v l) (hS:∀g,base<=g->g < w.heap.size->S g):
  ∃A c,v=.slice A l.length c/\RL f size w S A l:=by
 obtain⟨A,c,hv,_⟩:=h.reads;refine⟨A,c,hv,?_⟩
 match l,h,hv with
 | [],_,_=>exact .inl rfl
 | x::l,h,hv=>obtain⟨g,c',hv',hb,hlt,_⟩:=h.cell hf (k:=0) (x:=x) rfl;rw[hv] at hv';injection hv' with hA _ _;refine .inr ⟨g,0,hA,hS g hb hlt,λ i y j u hy hu=>?_⟩;obtain⟨g2,c2,hv2,_,_,hc⟩:=h.cell hf hy;rw[hv] at hv2;injection hv2 with Al _ _;rw[hA] at Al;injection Al with Al;injection Al with Al _ _;subst Al;rw[Nat.zero_add];exact hc j u hu
def Nr (ρ:dt)(W:World)(t:Tr)(r:dH)(e:Ending)(w':World):Prop:=∃y,e=.returned (mn y)/\t.at_ w' (jm W.heap.size w') y/\eG ρ W w' (.good r) false
def cT (z:Int)(l:dH)(t:Tr)(r:dH):Prop:=∀(ρ:dt) (w:World),ρ.at w (.good l) false->ar 184 #[ρ.ptr,af z] w (Nr ρ w t r)
def ma (l:dH)(t:Tr)(r:dH):Prop:=∀(ρ:dt) (w:World),ρ.at w (.good l) false->ar 199 #[ρ.ptr] w (Nr ρ w t r)
variable{r:dH}
theorem Nr.put(hg:ρ.g < w.heap.size)(hq:w.heap.size<=q)(hd:eG ρ w W (.good r) false)(ht:t.at_ W (jm (q+1) W) y):Nr ρ w t r (.returned (mn y)) (dV W q y):=
 ⟨y,rfl,(ht.dV (Nat.lt_succ_self q) y).more WC,hd.dV hg hq y⟩
theorem ami(hn:dI Zn l=false)(H:cT 3 l t r):cT 2 l t r:=by intro ρ w h;have eh:=h.FP;have hb:=ah w qp;have h0:=h.later hb;have hm:=cq ρ _ _ false h0 ⟨#[110,111,116]⟩ hn;exact ZaN
theorem amj(hn:dI sy l=false)(H:cT 7 l t r):cT 6 l t r:=by intro ρ w h;have eh:=h.FP;have hb:=ah w qp;have h0:=h.later hb;have hm:=cq ρ _ _ false h0 ⟨#[45]⟩ hn;exact ZaN
theorem zh0.Kcf(h:p:=by
 refine bodyPost_ret (v:=mn y) Zd6 rfl ?_
 ·exact Nr.put eh (Nat.le_refl _) D2.ae (ht.more WC)):p:=h
theorem zeF.Ka0(h:p:=by unfold qp at*;go_enter Tryz.func184,Tryz.ntmps184;go_wp2_with fail;refine(H ρ _ h0).mono ?_;rintro e w2 ⟨y,rfl,ht,Pn⟩;unfold mn bF;have SE:=Pn.blk HQ.ae WC;have jI:=aa SE;obtain⟨z0,z1,z2,z3,z4,z5,z6⟩:=eo SE;obtain⟨y0,y1,y2,y3,y4,y5,y6⟩:=bR SE;have D2:=aa ((eG.cY h hb).trans Pn);have hs2:=Pn.size;open zh0 in exact Zgj):p:=h
theorem amk(H:ma l t r):cT 7 l t r:=by intro ρ w h;open zeF in exact Zcw
variable{u:Wd}
theorem zhY.Kcf(h:p:=by
 refine bodyPost_ret (v:=mn y) Zd6 rfl ?_
 ·exact Nr.put eh (Nat.le_refl _) (HD.ae.later hL) ((HT.ae.later hL).more (Nat.le_refl _))):p:=h
theorem zb3.Kan(h:p:=by have SE:=Sy.ae.later hL;have Pn:=HX.ae.later hL;obtain⟨z0,z1,z2,z3,z4,z5,z6⟩:=eo SE;obtain⟨y0,y1,y2,y3,y4,y5,y6⟩:=bR SE;obtain⟨x0,x1,x2,x3,x4,x5,x6⟩:=bR Pn;have jI:=aa SE;have hqb:=SE.lt;open zhY in exact Zgj):p:=h
theorem zeG.Ka0(h:p:=by
 have n2:(z==2)=false:=by rw[beq_eq_false_iff_ne];omega
 have n6:(z==6)=false:=by rw[beq_eq_false_iff_ne];omega
 have n7:(z==7)=false:=by rw[beq_eq_false_iff_ne];omega
 have n3:(z==3)=false:=by rw[beq_eq_false_iff_ne];omega
 have hz5:0<=z/\z<=5:=by omega
 have HBZ:=aa (λ tk=>BU lv z hz WC tk);have UY:=aa hop;have HH:=aa H;clear hlv hz hop H;unfold qp at*;unfold dt.ptr;go_enter Tryz.func184,Tryz.ntmps184;go_wp2_with (first
  |(go_at_call 184;refine(HH.ae ρ _ h0).mono ?_;rintro e w2 ⟨y,rfl,ht,d2⟩;unfold mn bF))
 have hD:=((eG.cY h hb).trans d2).later (ah w2 (.cells #[ag y.op,ag y.v.k,af y.v.n,.string y.v.s,.string y.name,af y.width,.slice y.A y.n y.c] 46));have hX:=aB.new w2 46 #[ag y.op,ag y.v.k,af y.v.n,.string y.v.s,.string y.name,af y.width,.slice y.A y.n y.c];have hQ:=(d2.blk HQ.ae WC).alloc (.cells #[ag y.op,ag y.v.k,af y.v.n,.string y.v.s,.string y.name,af y.width,.slice y.A y.n y.c] 46);have hT:=(ht.later (ah w2 (.cells #[ag y.op,ag y.v.k,af y.v.n,.string y.v.s,.string y.name,af y.width,.slice y.A y.n y.c] 46))).more (B':=w.heap.size+1) WC;have hqx:w.heap.size+1<=w2.heap.size:=by have:=d2.size;omega
 generalize w2.alloc _=W at*;generalize w2.heap.size=qx at*;have HD:=aa hD;have HX:=aa hX;have Sy:=aa hQ;have HT:=aa hT;clear hD hX hQ hT ht d2 h0 hb HQ HH;go_loopg [] 0 (λ k wr=>wr=W);case atStart=>rfl
 case round=>
  obtain rfl:_=W:=hrel;obtain⟨tk,pl,bd,hpl,aoY,aml,ug,cj,hg,JO,vz,hp⟩:=HD.ae.at_.vS;obtain⟨r',mV⟩:=hg _ rfl;obtain rfl:u=tk.w:=by injection mV
  have Em:bd < 0:=by simpa [ck.gT] using cj
  have HP:=aa hp;have c2:=hp.c2;have Z5:=HBZ.ae tk;rw[UY.ae] at Z5;clear hpl hg cj ug hp mV;open zb3 in exact ZaF):p:=h
theorem sJ(lv:Nat)(hlv:lv=0\/lv=1\/lv=4\/lv=5)   (hop:kK lv u=0)(H:cT ((lv:Int)+1) l t (u::r)):cT lv l t (u::r):=by intro ρ w h;obtain⟨z,hz⟩:∃z:Int,z=lv:=⟨_,rfl⟩;rw[<- hz] at H ⊢;open zeG in exact Zcw
theorem Ca{t:Wd} (hk:t.k=1)(hr:sY t.s=false)(ρ:dt)(w:World)(h:ρ.at w (.good (t::r)) false):
  ar 137 #[ρ.ptr] w λ e w'=>∃n:ByteArray,n=⟨t.s.toArray⟩/\e=.returned (.string n)/\eG ρ w w' (.good r) false:=by refine(acj ρ w _ false h).mono ?_;rintro e w' ⟨x,rfl,d,hg⟩;rw[sG,if_pos ⟨hk,hr⟩] at d;simp only[jZ,vM,hk,hr,and_self,if_true] at hg;exact⟨x,hg,rfl,d⟩
theorem zdX.KaM(h:p:=by
 have iX:=HK.ae;have hst:=dt.at.step KK.ae (show tk.w.k≠0 by omega);have HST:=aa hst;have HX:=xI.ae.far (p:=⟨ρ.g,1,none⟩) Tab (af ((ρ.n:Int) - r.length));obtain⟨s0,s1,s2,s3,_⟩:=bO HX;clear HX hst;go_wp2_with (go_at_call 208;refine(FT ⟨2,tk.w.n,⟨#[]⟩⟩ _).mono ?_;rintro e w4 ⟨rfl,b4⟩;have Sz:=(mU.ae.far (p:=⟨ρ.g,1,none⟩) Tab (af ((ρ.n:Int) - r.length))).later b4;have ahr:=aa Sz;have B4:=aa b4;obtain⟨z0,z1,z2,z3,z4,z5,z6⟩:=eo Sz;obtain⟨y0,y1,y2,y3,y4,y5,y6⟩:=bR Sz;clear Sz b4);have HP:=ep ahr.ae ⟨1,⟨2,tk.w.n,⟨#[]⟩⟩,⟨#[]⟩,0,none,0,0⟩;have HR:=dr HP;unfold dV at HR;obtain⟨r0,r1,r2,r3,r4,r5,r6⟩:=HR;refine bodyPost_ret (v:=mn ⟨1,⟨2,tk.w.n,⟨#[]⟩⟩,⟨#[]⟩,0,none,0,0⟩) ZcD rfl ?_
 ·exact Nr.put (t:=sZ ⟨2,tk.w.n,ByteArray.empty⟩) eh (Nat.le_refl _) ((HD.ae.trans HST.ae).later B4.ae) (ID _ _ _)):p:=h
theorem zap.KG(h:p:=by
 have e1:(pl:Int)+1=(ρ.n:Int) - r.length:=by rw[hpl];simp only[ck.left,length_cons] at*;omega
 open zdX in exact ZbZ):p:=h
theorem ZW{t:Wd} (iX:t.k=2):ma (t::r) (sZ ⟨2,t.n,ByteArray.empty⟩) r:=by intro ρ w h;have HK:=aa iX;clear iX;open zap in exact Zad
theorem zhC.Kb5(h:p:=by
 refine(nT ρ _ _ false d1.at_ ⟨#[102,97,108,115,101]⟩ (show(ck.good (tk.w::r)).head (⟨#[102,97,108,115,101]⟩:ByteArray).data.toList=true from H2.ae)).mono ?_;rintro e w2 ⟨rfl,d2⟩;go_wp2_with fail;refine(FT ⟨1,0,⟨#[]⟩⟩ _).mono ?_;rintro e w9 ⟨rfl,b4⟩;have SE:=((d2.blk ((d1.blk (mU.ae) WC)) WC)).later b4;have ahr:=aa SE;have B4:=aa b4;obtain⟨z0,z1,z2,z3,z4,z5,z6⟩:=eo SE;obtain⟨y0,y1,y2,y3,y4,y5,y6⟩:=bR SE;have D1:=aa d1;have D2:=aa d2;clear SE b4;go_wp2_with fail;have HP:=ep ahr.ae ⟨1,⟨1,0,⟨#[]⟩⟩,⟨#[]⟩,0,none,0,0⟩;have HR:=dr HP;unfold dV at HR;obtain⟨r0,r1,r2,r3,r4,r5,r6⟩:=HR;refine bodyPost_ret (v:=mn ⟨1,⟨1,0,⟨#[]⟩⟩,⟨#[]⟩,0,none,0,0⟩) ZcD rfl ?_
 ·exact Nr.put (t:=sZ ⟨1,0,ByteArray.empty⟩) eh (Nat.le_refl _) ((((HD.ae).trans D1.ae).trans D2.ae).later B4.ae) (ID _ _ _)):p:=h
theorem zbx.Kah(h:p:=by open zhC in exact ZfB):p:=h
theorem zaq.KG(h:p:=by
 have e1:(pl:Int)+1=(ρ.n:Int) - r.length:=by rw[hpl];simp only[ck.left,length_cons] at*;omega
 open zbx in exact Zay):p:=h
theorem Po{t:Wd} (hg:Plain t)(HX:iV OM t=false)(h2:iV Ap t=true):ma (t::r) (sZ ⟨1,0,ByteArray.empty⟩) r:=by intro ρ w h;have vU:=aa hg;clear hg;have H1:=aa HX;have H2:=aa h2;clear HX h2;open zaq in exact Zad
theorem zem.KaS(h:p:=by
 have SE:=Pp.ae;have hqb:=SE.lt;obtain⟨z0,z1,z2,z3,z4,z5,z6⟩:=eo SE;obtain⟨y0,y1,y2,y3,y4,y5,y6⟩:=bR SE;clear SE;go_wp2_with fail;have Lw:=ep Pp.ae ⟨2,ud,n,0,none,0,0⟩;have HR:=dr Lw;unfold dV ud at HR;obtain⟨r0,r1,r2,r3,r4,r5,r6⟩:=HR;refine bodyPost_ret (v:=mn ⟨2,ud,n,0,none,0,0⟩) ZcD rfl ?_
 ·rw[<- HN.ae];exact Nr.put (t:=ua n) eh (Nat.le_refl _) Xu.ae (BK _ _ _)):p:=h
theorem zdM.KaJ(h:p:=by rw[show(ck.good r).head (⟨#[40]⟩:ByteArray).data.toList=false from HC.ae] at hwd;open zem in exact Zck):p:=h
theorem zhD.Kb5(h:p:=by refine(cq ρ _ _ false d1.at_ ⟨#[102,97,108,115,101]⟩ (show(ck.good (tk.w::r)).head (⟨#[102,97,108,115,101]⟩:ByteArray).data.toList=false from H2.ae)).mono ?_;rintro e w2 ⟨rfl,d2⟩;go_wp2_with fail;refine(cq ρ _ _ false d2.at_ ⟨#[110,117,108,108]⟩ (show(ck.good (tk.w::r)).head (⟨#[110,117,108,108]⟩:ByteArray).data.toList=false from H3.ae)).mono ?_;rintro e w3 ⟨rfl,d3⟩;go_wp2_with fail;refine(cq ρ _ _ false d3.at_ ⟨#[40]⟩ (show(ck.good (tk.w::r)).head (⟨#[40]⟩:ByteArray).data.toList=false from H4.ae)).mono ?_;open zdM in exact ZbR):p:=h
theorem zby.Kah(h:p:=by open zhD in exact ZfB):p:=h
theorem zar.KG(h:p:=by
 have e1:(pl:Int)+1=(ρ.n:Int) - r.length:=by rw[hpl];simp only[ck.left,length_cons] at*;omega
 open zby in exact Zay):p:=h
theorem zhs.Kb1(h:p:=by clear iX;open zar in exact Zad):p:=h
theorem Lz{t:Wd} (iX:Lx t)(DR:t.k=1)(Sq:sY t.s=false)(hc:dI eE r=false):ma (t::r) (ua ⟨t.s.toArray⟩) r:=by intro ρ w h;have HF:=aa DR;have IH:=aa Sq;clear DR Sq;have HC:=aa hc;clear hc;open zhs in exact Zfm
def amm (ρ:dt)(x:Tr)(r:dH)(y:Ex)(w w':World):Prop:=Tr.at_ w' (jm w.heap.size w') x y/\eG ρ w w' (.good r) false
theorem mb{s:List UInt8} {t:Wd} (ht:iV s t=true)(ρ:dt)(w:World)(h:ρ.at w (.good (t::r)) false)(b:Nat)(hb:aB w b 9 (bK [s]))(hbg:ρ.g≠b):
  ar 138 #[ρ.ptr,aI b 1 1] w (BR ρ w (.good r) false):=by have:=UU ρ w (.good (t::r)) false h [s] b 1 rfl hb hbg WC;rw[BQ,ry (show(ck.good (t::r)).head s=true from ht)] at this;exact this
theorem LB{t:Wd} (hk:t.k=2)(ρ:dt)(w:World)(h:ρ.at w (.good (t::r)) false):
  ar 181 #[ρ.ptr] w λ e w'=>∃x:Int,x=t.n/\0<=x/\x<=9223372036854775807/\e=.returned (af x)/\eG ρ w w' (.good r) false:=by refine(UT ρ w _ false h).mono ?_;rintro e w' ⟨x,hx0,hx1,rfl,d,hg⟩;simp only[jZ,IB,hk,if_true] at hg;simp only[dp,IB,hk,if_true] at d;exact⟨x,hg,hx0,hx1,rfl,d⟩
variable{ob cb:Wd}{x:Tr}
theorem za7.Kad(h:p:=by
 have Lw:=ep C4.ae ⟨o,ud,⟨#[]⟩,0,A,1,c⟩;have HR:=dr Lw;unfold dV ud at HR;obtain⟨r0,r1,r2,r3,r4,r5,r6⟩:=HR;refine bodyPost_ret (v:=mn ⟨o,ud,⟨#[]⟩,0,A,1,c⟩) ZcD rfl ?_
 ·refine Nr.put (t:=Ao o [x]) eh (Nat.le_refl _) DC.ae ?_;unfold Ao Tr.at_;exact Zc5):p:=h
theorem zbF.Kaj(h:p:=by
 obtain⟨n22,n20,n27,n28⟩:=HC.ae;clear HC;go_wp2_with fail;have HX0:=aB.new uj 46 #[ag o,ag 0,af 0,au,au,af 0,az];have B5:=ah uj (.cells #[ag o,ag 0,af 0,au,au,af 0,az] 46);have pk:=aa (LD.ae.later B5);have uk:=aa (xK.ae.later B5);have afb:(uj.alloc (.cells #[ag o,ag 0,af 0,au,au,af 0,az] 46)).heap.size=uj.heap.size+1:=by simp
 have HX:=aa HX0;clear HX0 B5 LD xK c4;generalize uj.alloc _=Vb at*;generalize uj.heap.size=qx at*;open za7 in exact Zar):p:=h
theorem zgY.KbP(h:p:=by
 cases he:(n.data.toList==y)
 ·exact ZbB
 ·open zbF in exact ZaA):p:=h
theorem zbC.Kai(h:p:=by
 go_loopw [8] (λ u wr=>∃k:Nat,k<=8/\u=af k/\aj W8 wr/\lW n=(OT.drop k).lookup n.data.toList) (λ u _=>8 - (intOf u).toNat);case atStart=>exact Zf6
 case round=>
  obtain⟨k,hi,rfl,hP,hlk⟩:=hrel;have DU:=aa hlk;have HP:=aa hP;clear hlk hP;by_cases hlt:k < 8
  ·open zgY in exact ZeH
  ·exact Zdv):p:=h
theorem zdN.KaJ(h:p:=by rw[show(ck.good (ob::l)).head (⟨#[40]⟩:ByteArray).data.toList=true from Q1.ae] at hwd;open zbC in exact Zaz):p:=h
theorem zbz.Kah(h:p:=by refine(cq ρ _ _ false KK.ae ⟨#[116,114,117,101]⟩ (show(ck.good (tk.w::ob::l)).head (⟨#[116,114,117,101]⟩:ByteArray).data.toList=false from H1.ae)).mono ?_;rintro e w1 ⟨rfl,d1⟩;go_wp2_with fail;refine(cq ρ _ _ false d1.at_ ⟨#[102,97,108,115,101]⟩ (show(ck.good (tk.w::ob::l)).head (⟨#[102,97,108,115,101]⟩:ByteArray).data.toList=false from H2.ae)).mono ?_;rintro e w2 ⟨rfl,d2⟩;go_wp2_with fail;refine(cq ρ _ _ false d2.at_ ⟨#[110,117,108,108]⟩ (show(ck.good (tk.w::ob::l)).head (⟨#[110,117,108,108]⟩:ByteArray).data.toList=false from H3.ae)).mono ?_;rintro e w3 ⟨rfl,d3⟩;go_wp2_with fail;refine(cq ρ _ _ false d3.at_ ⟨#[40]⟩ (show(ck.good (tk.w::ob::l)).head (⟨#[40]⟩:ByteArray).data.toList=false from H4.ae)).mono ?_;open zdN in exact ZbR):p:=h
theorem zas.KG(h:p:=by
 have e1:(pl:Int)+1=(ρ.n:Int) - (ob::l).length:=by rw[hpl];simp only[ck.left,length_cons] at*;omega
 open zbz in exact Zay):p:=h
theorem zht.Kb1(h:p:=by clear iX;open zas in exact Zad):p:=h
theorem ZY{t:Wd}  (OP:Int)(hc:(OP==22)=false/\(OP==20)=false/\(OP==27)=false/\(OP==28)=false)(iX:Lx t)(hF:t.k=1)(ih:sY t.s=false)(q1:iV eE ob=true)(q2:lW ⟨t.s.toArray⟩=some OP)(H:cT 0 l x (cb::r))(hcb:iV eA cb=true):ma (t::ob::l) (Ao OP [x]) r:=by intro ρ w h;have HF:=aa hF;have IH:=aa ih;have Q1:=aa q1;have HFN:=aa q2;have HH:=aa H;have HCB:=aa hcb;clear hF ih q1 q2 H hcb;have HC:=aa hc;clear hc;open zht in exact Zfm
variable{sr:Wd}
theorem zhw.Kb2(h:p:=by
 have Xt:=uk.ae.lt;go_wp2_with fail;have XV:=pk.ae.at_.later (ah _ (.cells (bK [eA]) 9));refine(mb Q5.ae ρ _ XV SF.heap.size (aB.new _ _ _) WC).mono ?_;rintro e w12 ⟨rfl,d12⟩;have Pq:=ah SF (.cells (bK [eA]) 9);have SE:=(uk.ae.later Pq).grown d12.grown Tab;have jI:=aa SE;obtain⟨z0,z1,z2,z3,z4,z5,z6⟩:=eo SE;obtain⟨y0,y1,y2,y3,y4,y5,y6⟩:=bR SE;have DC:=aa ((pk.ae.later Pq).trans d12);clear SE d12 Pq;go_wp2_with fail;have Lw:=ep jI.ae ⟨21,ud,⟨#[]⟩,0,none,0,0⟩;have HR:=dr Lw;unfold dV ud at HR;obtain⟨r0,r1,r2,r3,r4,r5,r6⟩:=HR;refine bodyPost_ret (v:=mn ⟨21,ud,⟨#[]⟩,0,none,0,0⟩) ZcD rfl ?_
 ·exact Nr.put (t:=Ao 21 []) eh (Nat.le_refl _) DC.ae (ahe _ _ 21)):p:=h
theorem zbG.Kaj(h:p:=by
 obtain rfl:=Q3.ae;clear Q3;go_wp2_with fail;have HX0:=aB.new uj 46 #[ag 22,ag 0,af 0,au,au,af 0,az];have B5:=ah uj (.cells #[ag 22,ag 0,af 0,au,au,af 0,az] 46);have pk:=aa (LD.ae.later B5);have uk:=aa (xK.ae.later B5);have afb:(uj.alloc (.cells #[ag 22,ag 0,af 0,au,au,af 0,az] 46)).heap.size=uj.heap.size+1:=by simp
 have HX:=aa HX0;clear HX0 B5 LD xK c4;generalize uj.alloc _=Vb at*;generalize uj.heap.size=qx at*;refine(nT ρ _ _ false pk.ae.at_ ⟨#[42]⟩ Q4.ae).mono ?_;rintro e SF ⟨rfl,d13⟩;open zhw in exact Zfn):p:=h
theorem zgZ.KbP(h:p:=by
 cases he:(n.data.toList==y)
 ·exact ZbB
 ·open zbG in exact ZaA):p:=h
theorem zbD.Kai(h:p:=by
 go_loopw [8] (λ u wr=>∃k:Nat,k<=8/\u=af k/\aj W8 wr/\lW n=(OT.drop k).lookup n.data.toList) (λ u _=>8 - (intOf u).toNat);case atStart=>exact Zf6
 case round=>
  obtain⟨k,hi,rfl,hP,hlk⟩:=hrel;have DU:=aa hlk;have HP:=aa hP;clear hlk hP;by_cases hlt:k < 8
  ·open zgZ in exact ZeH
  ·exact Zdv):p:=h
theorem zdO.KaJ(h:p:=by rw[show(ck.good (ob::sr::cb::r)).head (⟨#[40]⟩:ByteArray).data.toList=true from Q1.ae] at hwd;open zbD in exact Zaz):p:=h
theorem zbA.Kah(h:p:=by refine(cq ρ _ _ false KK.ae ⟨#[116,114,117,101]⟩ (show(ck.good (tk.w::ob::sr::cb::r)).head (⟨#[116,114,117,101]⟩:ByteArray).data.toList=false from H1.ae)).mono ?_;rintro e w1 ⟨rfl,d1⟩;go_wp2_with fail;refine(cq ρ _ _ false d1.at_ ⟨#[102,97,108,115,101]⟩ (show(ck.good (tk.w::ob::sr::cb::r)).head (⟨#[102,97,108,115,101]⟩:ByteArray).data.toList=false from H2.ae)).mono ?_;rintro e w2 ⟨rfl,d2⟩;go_wp2_with fail;refine(cq ρ _ _ false d2.at_ ⟨#[110,117,108,108]⟩ (show(ck.good (tk.w::ob::sr::cb::r)).head (⟨#[110,117,108,108]⟩:ByteArray).data.toList=false from H3.ae)).mono ?_;rintro e w3 ⟨rfl,d3⟩;go_wp2_with fail;refine(cq ρ _ _ false d3.at_ ⟨#[40]⟩ (show(ck.good (tk.w::ob::sr::cb::r)).head (⟨#[40]⟩:ByteArray).data.toList=false from H4.ae)).mono ?_;open zdO in exact ZbR):p:=h
theorem zat.KG(h:p:=by
 have e1:(pl:Int)+1=(ρ.n:Int) - (ob::sr::cb::r).length:=by rw[hpl];simp only[ck.left,length_cons] at*;omega
 open zbA in exact Zay):p:=h
theorem zhv.Kb1(h:p:=by clear iX;open zat in exact Zad):p:=h
theorem zgI.KbK(h:p:=by clear hF ih q1 q2 q5 q3 q4;open zhv in exact Zfm):p:=h
theorem UZ{t:Wd} (OP:Int)(q3:OP=22)(iX:Lx t)(hF:t.k=1)(ih:sY t.s=false)(q1:iV eE ob=true)(q2:lW ⟨t.s.toArray⟩=some OP)(q4:iV xA sr=true)(q5:iV eA cb=true):ma (t::ob::sr::cb::r) (Ao 21 []) r:=by intro ρ w h;open zgI in exact Zer
variable{nb cm:Wd}
theorem za8.Kad(h:p:=by
 have Lw:=ep C4.ae ⟨20,ud,⟨#[]⟩,kk,A,1,c⟩;have HR:=dr Lw;unfold dV ud at HR;obtain⟨r0,r1,r2,r3,r4,r5,r6⟩:=HR;refine bodyPost_ret (v:=mn ⟨20,ud,⟨#[]⟩,kk,A,1,c⟩) ZcD rfl ?_
 ·rw[<- HKN.ae];refine Nr.put (t:=.mk 20 jH ByteArray.empty kk [x]) eh (Nat.le_refl _) DC.ae ?_;unfold Tr.at_;exact Zc5):p:=h
theorem zhx.Kb2(h:p:=by
 have atg:=HX.ae.frozen 5;obtain⟨x0,x1,x2,x3,x4,x5,x6⟩:=bR HX.ae;have awU:=HX.ae.lt;have HXk:=HX.ae.aU 5 (af kk);simp only[Uac] at HXk;have HQk:=uk.ae.far (p:=⟨qx,5,none⟩) Tab (af kk);have DK:=pk.ae.far eh (show w.heap.size<=qx by omega) 5 (af kk);have kB:=aa HXk;have yS:=aa HQk;have JS:=aa DK;clear HX uk pk HXk HQk DK;go_wp2_with fail;clear x0 x1 x2 x3 x4 x5 x6 atg;have JM:aB ((SF.setCell ⟨qx,5,none⟩ (af kk)).alloc (.cells (bK [dL]) 9)) SF.heap.size 9 (bK [dL]):=by have:=aB.new (SF.setCell ⟨qx,5,none⟩ (af kk)) 9 (bK [dL]);rwa [show(SF.setCell ⟨qx,5,none⟩ (af kk)).heap.size=SF.heap.size by simp[World.setCell]] at this
 have XV:=JS.ae.at_.later (ah _ (.cells (bK [dL]) 9));refine(mb HCM.ae ρ _ XV SF.heap.size JM WC).mono ?_;rintro e Vb ⟨rfl,d14⟩;have bcm:=ah (SF.setCell ⟨qx,5,none⟩ (af kk)) (.cells (bK [dL]) 9);have HX:=aa ((kB.ae.later bcm).grown d14.grown Tab);have uk:=aa ((yS.ae.later bcm).grown d14.grown Tab);have pk:=aa ((JS.ae.later bcm).trans d14);have amB:qx+1<=Vb.heap.size:=HX.ae.lt;clear kB yS JS d14 bcm XV JM;go_wp2_with fail;open za8 in exact Zar):p:=h
theorem zbH.Kaj(h:p:=by
 obtain rfl:=Q3.ae;clear Q3;go_wp2_with fail;have HX0:=aB.new uj 46 #[ag 20,ag 0,af 0,au,au,af 0,az];have B5:=ah uj (.cells #[ag 20,ag 0,af 0,au,au,af 0,az] 46);have pk:=aa (LD.ae.later B5);have uk:=aa (xK.ae.later B5);have afb:(uj.alloc (.cells #[ag 20,ag 0,af 0,au,au,af 0,az] 46)).heap.size=uj.heap.size+1:=by simp
 have HX:=aa HX0;clear HX0 B5 LD xK c4;generalize uj.alloc _=W11 at*;generalize uj.heap.size=qx at*;refine(LB IL.ae ρ _ pk.ae.at_).mono ?_;rintro e SF ⟨kk,zA,hk0,hF,rfl,d13⟩;have HKN:=aa zA;clear zA;open zhx in exact Zfn):p:=h
theorem zg0.KbP(h:p:=by
 cases he:(n.data.toList==y)
 ·exact ZbB
 ·open zbH in exact ZaA):p:=h
theorem zbE.Kai(h:p:=by
 go_loopw [8] (λ u wr=>∃k:Nat,k<=8/\u=af k/\aj W8 wr/\lW n=(OT.drop k).lookup n.data.toList) (λ u _=>8 - (intOf u).toNat);case atStart=>exact Zf6
 case round=>
  obtain⟨k,hi,rfl,hP,hlk⟩:=hrel;have DU:=aa hlk;have HP:=aa hP;clear hlk hP;by_cases hlt:k < 8
  ·open zg0 in exact ZeH
  ·exact Zdv):p:=h
theorem zdP.KaJ(h:p:=by rw[show(ck.good (ob::nb::cm::l)).head (⟨#[40]⟩:ByteArray).data.toList=true from Q1.ae] at hwd;open zbE in exact Zaz):p:=h
theorem zbB.Kah(h:p:=by refine(cq ρ _ _ false KK.ae ⟨#[116,114,117,101]⟩ (show(ck.good (tk.w::ob::nb::cm::l)).head (⟨#[116,114,117,101]⟩:ByteArray).data.toList=false from H1.ae)).mono ?_;rintro e w1 ⟨rfl,d1⟩;go_wp2_with fail;refine(cq ρ _ _ false d1.at_ ⟨#[102,97,108,115,101]⟩ (show(ck.good (tk.w::ob::nb::cm::l)).head (⟨#[102,97,108,115,101]⟩:ByteArray).data.toList=false from H2.ae)).mono ?_;rintro e w2 ⟨rfl,d2⟩;go_wp2_with fail;refine(cq ρ _ _ false d2.at_ ⟨#[110,117,108,108]⟩ (show(ck.good (tk.w::ob::nb::cm::l)).head (⟨#[110,117,108,108]⟩:ByteArray).data.toList=false from H3.ae)).mono ?_;rintro e w3 ⟨rfl,d3⟩;go_wp2_with fail;refine(cq ρ _ _ false d3.at_ ⟨#[40]⟩ (show(ck.good (tk.w::ob::nb::cm::l)).head (⟨#[40]⟩:ByteArray).data.toList=false from H4.ae)).mono ?_;open zdP in exact ZbR):p:=h
theorem zau.KG(h:p:=by
 have e1:(pl:Int)+1=(ρ.n:Int) - (ob::nb::cm::l).length:=by rw[hpl];simp only[ck.left,length_cons] at*;omega
 open zbB in exact Zay):p:=h
theorem zhu.Kb1(h:p:=by clear iX;open zau in exact Zad):p:=h
theorem LF{t:Wd}  (OP:Int)(hop:OP=20)(iX:Lx t)(hF:t.k=1)(ih:sY t.s=false)(q1:iV eE ob=true)(q2:lW ⟨t.s.toArray⟩=some OP)(hk2:nb.k=2)(hcm:iV dL cm=true)(H:cT 0 l x (cb::r))(hcb:iV eA cb=true):ma (t::ob::nb::cm::l) (.mk 20 jH ByteArray.empty nb.n [x]) r:=by intro ρ w h;have HF:=aa hF;have IH:=aa ih;have Q1:=aa q1;have HFN:=aa q2;have HH:=aa H;have HCB:=aa hcb;have Q3:=aa hop;have IL:=aa hk2;have HCM:=aa hcm;clear hF ih q1 q2 H hcb hop hk2 hcm;open zhu in exact Zfm
structure AtC (ρ:dt) (w:World) (q qx:Nat) (wr:World) (l:dH) (t:Tr) (y:Ex):Prop where
 did:eG ρ w wr (.good l) false
 blk:aB wr qx 46 (bF y).toArray
 res:aB wr q 46 #[ag 0,ag 0,af 0,au,au,af 0,az]
 tr:t.at_ wr (Bx (q+1) qx wr) y
variable{wr W2:World}{qx:Nat}
theorem AtC.more(A:AtC ρ w q qx wr l t y)(d:eG ρ wr W2 (.good l) false)(h1:ρ.g < q)(h2:q+1<=qx):AtC ρ w q qx W2 l t y:=
 ⟨A.did.trans d,d.blk A.blk WC,d.blk A.res WC,Tr.at_.keep (vN d.grown WC) _ _ A.tr⟩
structure AtD (ρ:dt) (w:World) (q qx:Nat) (W:World) (r:dH) (t:Tr) (y:Ex):Prop where
 did:eG ρ w W (.good r) false
 blk:aB W qx 46 (bF y).toArray
 res:aB W q 46 #[ag 0,ag 0,af 0,au,au,af 0,az]
 tr:t.at_ W (jm (q+1) W) y
variable{Ws w3:World}{t' t2:Tr}{y' v2:Ex}{l0:dH}{bi:Int}
theorem AtC.round(eh:ρ.g < w.heap.size)(Xt:q=w.heap.size)(hqq:q+1<=qx)(A:AtC ρ w q qx wr l0 t' y')(hW:aj wr W2)(hst:eG ρ W2 Ws (.good l) false)(d2:eG ρ Ws w3 (.good r) false)
  (ht2:t2.at_ w3 (jm Ws.heap.size w3) v2):
  AtD ρ w q qx (dV ((w3.alloc (uh v2)).alloc (zO y' v2)) qx (opY bi (w3.heap.size+1) 2)) r (Ao bi [t',t2]) (opY bi (w3.heap.size+1) 2):=by
 have hz1:=d2.size;have hz2:=hst.size;have hz3:=hW.size;have hqb:=A.blk.lt;have b12:aj w3 ((w3.alloc (uh v2)).alloc (zO y' v2)):=ai.then (ah w3 _) (ah _ _);have hsz:((w3.alloc (uh v2)).alloc (zO y' v2)).heap.size=w3.heap.size+2:=by simp
 have hN:aB ((w3.alloc (uh v2)).alloc (zO y' v2)) (w3.heap.size+1) 46 (bF y'++bF v2).toArray:=by have:=aB.new (w3.alloc (uh v2)) 46 (bF y'++bF v2).toArray;rw[World.size_alloc] at this;exact this
 have hX:aB ((w3.alloc (uh v2)).alloc (zO y' v2)) qx 46 (bF y').toArray:=(((A.blk.later hW).grown hst.grown Tab).grown d2.grown Tab).later b12;have hR:aB ((w3.alloc (uh v2)).alloc (zO y' v2)) q 46 _:=(((A.res.later hW).grown hst.grown Tab).grown d2.grown Tab).later b12;have hD:eG ρ w ((w3.alloc (uh v2)).alloc (zO y' v2)) (.good r) false:=(((A.did.later hW).trans hst).trans d2).later b12
 have hT:(Ao bi [t',t2]).at_ ((w3.alloc (uh v2)).alloc (zO y' v2)) (Bx (q+1) qx ((w3.alloc (uh v2)).alloc (zO y' v2))) (opY bi (w3.heap.size+1) 2):=by
  refine ahd bi hN ⟨by omega,by omega,by omega⟩ ?_ ?_
  ·exact Tr.at_.keep (BJ b12) _ _ (Tr.at_.keep (vN d2.grown WC) _ _ (Tr.at_.keep (vN hst.grown WC) _ _ (Tr.at_.keep (BJ hW) _ _ A.tr)))
  ·exact Tr.at_.keep (alT WC WC) _ _ (ht2.later b12)
 generalize (w3.alloc (uh v2)).alloc (zO y' v2)=W5 at*;refine⟨hD.dV eh WC _,ep hX _,UW hR WC _,?_⟩;exact Tr.at_.keep (OU (Nat.le_refl _)) _ _ (Tr.at_.keep (aeV (S:=λ w=>Bx (q+1) qx w) (λ w i u=>Zu i u) _) _ _ hT)
theorem zhZ.Kcf(h:p:=by
 refine bodyPost_ret (v:=mn y) Zd6 rfl ?_
 ·exact Nr.put eh (Nat.le_refl _) (HA.ae.did.later hL) (Tr.at_.keep (OU (Nat.le_refl _)) _ _ (Tr.at_.keep (BJ hL) _ _ HA.ae.tr))):p:=h
theorem zb4.Kan(h:p:=by have SE:=HA.ae.res.later hL;have Pn:=HA.ae.blk.later hL;have hqb:=SE.lt;obtain⟨z0,z1,z2,z3,z4,z5,z6⟩:=eo SE;obtain⟨y0,y1,y2,y3,y4,y5,y6⟩:=bR SE;obtain⟨x0,x1,x2,x3,x4,x5,x6⟩:=dr Pn;have jI:=aa SE;open zhZ in exact Zgj):p:=h
theorem zfu.Kbi(h:p:=by
 have e1:(ρ.n:Int) - (ck.good (tk.w::r)).left+1=(ρ.n:Int) - r.length:=by simp only[ck.left,length_cons];omega
 have Pr:=aa e1;have atk:=HA.ae.did.at_.left;clear hpl hg cj ug hp hr2 e1;open zb4 in exact ZaF):p:=h
theorem zcG.Kav(h:p:=by
 go_loopg [] 0 (λ k wr=>wr=w1);case atStart=>rfl
 case round=>
  open zfu in exact Zdr):p:=h
theorem amD(pn:dI abS (u::r)=false)(hop:kK 3 u=0)(H:cT 4 l t (u::r)):cT 3 l t (u::r):=by
 open zcG in exact Za9
variable{l2:dH}
theorem zb5.Kan(h:p:=by
 obtain⟨ho1,Rx⟩:=ho;have e0:(o==0)=false:=by rw[beq_eq_false_iff_ne];omega
 have nN:=HA.ae.did.at_.later hL;obtain⟨q0,q1,q2,q3,f1,f2,f3⟩:=nN.facts;have e1:=Pr.ae;have hst:=dt.at.step nN hk0;have sX:l2.length+1<=ρ.n:=by have:=nN.left;have e2:(ck.good (tk.w::l2)).left=l2.length+1:=rfl;omega
 clear nN q0 q2 q3 f2 f3;go_upto_region 23 with (first
  |(go_at_call 184;refine(H2 ρ _ hst.at_).mono ?_;rintro e Kx ⟨v2,rfl,ht2,d2⟩;unfold mn bF;have F:=AtC.round (bi:=o) eh rfl hqx HA.ae hL hst d2 ht2;have hz1:=d2.size;have hz2:=hst.size;have hz3:=hL.size;have B0:=((HA.ae.blk.later hL).grown hst.grown Tab).grown d2.grown Tab;have B1:=B0.alloc (.cells #[ag v2.op,ag v2.v.k,af v2.v.n,.string v2.v.s,.string v2.name,af v2.width,.slice v2.A v2.n v2.c] 46);have B2:=B1.alloc (.cells #[ag y.op,ag y.v.k,af y.v.n,.string y.v.s,.string y.name,af y.width,.slice y.A y.n y.c,ag v2.op,ag v2.v.k,af v2.v.n,.string v2.v.s,.string v2.name,af v2.width,.slice v2.A v2.n v2.c] 46);have N1:=aB.new Kx 46 (bF v2).toArray;have X1:=dr B1;have X2:=dr B2;have X3:=eo B2;have X4:=dr N1;unfold bF at X4;obtain⟨x0,x1,x2,x3,x4,x5,x6⟩:=X1;obtain⟨y0,y1,y2,y3,y4,y5,y6⟩:=X2;obtain⟨z0,z1,z2,z3,z4,z5,z6⟩:=X3;obtain⟨a0,a1,a2,a3,a4,a5,a6⟩:=X4;have HF:=aa F;clear B0 B1 B2 N1 F))
 clear x0 x1 x2 x3 x4 x5 x6 y0 y1 y2 y3 y4 y5 y6 z0 z1 z2 z3 z4 z5 z6 a0 a1 a2 a3 a4 a5 a6;have F:=HF.ae;clear HF;show Code.wp _ _ _ _ (dV ((Kx.alloc (uh v2)).alloc (zO y v2)) qx (opY o (Kx.heap.size+1) 2));generalize dV ((Kx.alloc (uh v2)).alloc (zO y v2)) qx (opY o (Kx.heap.size+1) 2)=W9 at*;generalize opY o (Kx.heap.size+1) 2=Y9 at*;obtain⟨x0,x1,x2,x3,x4,x5,x6⟩:=dr F.blk;obtain⟨z0,z1,z2,z3,z4,z5,z6⟩:=eo F.res;obtain⟨y0,y1,y2,y3,y4,y5,y6⟩:=bR F.res;have hqb:=F.res.lt;have HF:=aa F;clear F;go_wp2_with fail;have HP:=ep HF.ae.res Y9;have HR:=dr HP;unfold dV at HR;obtain⟨r0,r1,r2,r3,r4,r5,r6⟩:=HR;refine bodyPost_ret (v:=mn Y9) Zd6 rfl ?_
 ·exact Nr.put eh (Nat.le_refl _) HF.ae.did HF.ae.tr):p:=h
theorem zfv.Kbi(h:p:=by
 have e1:(ρ.n:Int) - (ck.good (tk.w::l2)).left+1=(ρ.n:Int) - l2.length:=by simp only[ck.left,length_cons];omega
 have Pr:=aa e1;have atk:=HA.ae.did.at_.left;clear hpl hg cj ug hp hr2 e1;open zb5 in exact ZaF):p:=h
theorem zcH.Kav(h:p:=by
 go_loopg [] 0 (λ k wr=>wr=w1);case atStart=>rfl
 case round=>
  open zfv in exact Zdr):p:=h
theorem atl(o:Int)(ho:5<=o/\o<=17)(hk0:u.k≠0)(pn:dI abS (u::l2)=false)(hop:kK 3 u=o)(H:cT 4 l t (u::l2))(H2:cT 4 l2 t2 r):cT 3 l (Ao o [t,t2]) r:=by
 open zcH in exact Za9
structure FV (u:Wd):Prop where
 b0:kK 0 u=0
 b1:kK 1 u=0
 b4:kK 4 u=0
 b5:kK 5 u=0
 is_:iV abS u=false
structure xL (l:dH):Prop where
 no:dI Zn l=false
 mi:dI sy l=false
theorem C5(h:ma l t (u::r))(hb:xL l)(hu:FV u):cT 4 l t (u::r):=
 sJ 4 (.inr (.inr (.inl rfl))) hu.b4 (sJ 5 (.inr (.inr (.inr rfl))) hu.b5 (amj hb.mi (amk h)))
theorem up3(h:cT 3 l t (u::r))(hb:xL l)(hu:FV u):cT 0 l t (u::r):=
 sJ 0 (.inl rfl) hu.b0 (sJ 1 (.inr (.inl rfl)) hu.b1 (ami hb.no h))
theorem LG(h:ma l t (u::r))(hb:xL l)(hu:FV u)(h3:kK 3 u=0):cT 0 l t (u::r):=
 up3 (amD hu.is_ h3 (C5 h hb hu)) hb hu
theorem amE{c:Wd} (o:Int)(ho:5<=o/\o<=17)(hk0:c.k≠0)(hc:FV c)(hop:kK 3 c=o)(h:ma l t (c::l2))(hb:xL l)(h2:ma l2 t2 (u::r))(hb2:xL l2)(hu:FV u):cT 0 l (Ao o [t,t2]) (u::r):=
 up3 (atl o ho hk0 hc.is_ hop (C5 h hb hc) (C5 h2 hb2 hu)) hb hu
section
variable {s:List UInt8} {σ:ck} {x:Tr}
end
section
variable {α:Type} {el:Ps α} {σ yQ:ck} {acc:List α} {x:α}
end
def nH (y:Sl):Value:=.slice y.A y.n y.c
def _root_.Go.Proofs.YtndgjggokjickaaGreatDoor.Sl.nil:Sl:=⟨none,0,0⟩
def El.sl(E:El α)(w:World)(S:Nat->Prop)(y:Sl)(l:List α):Prop:=E.lies w S y.A y.n l
theorem El.um(E:El α)(w:World)(S:Nat->Prop):E.sl w S Sl.nil []:=E.Zt w S
variable{E:El α}{S':Nat->Prop}
theorem El.sl.keep{y:Sl} {l:List α}(h:E.sl w S y l)(hk:∀b,S b->(∀o,w'.cell? ⟨b,o,none⟩=w.cell? ⟨b,o,none⟩)/\S' b):E.sl w' S' y l:=El.lies.keep h hk
structure xM where
 items:Sl:=.nil
 bS:ByteArray:=ByteArray.empty
 only:Bool:=false
 bT:Sl:=.nil
 group:Sl:=.nil
 having:Sl:=.nil
 order:Sl:=.nil
 dw:Sl:=.nil
def LH (y:xM):List Value:=[nH y.items,.string y.bS,.bool y.only,nH y.bT,nH y.group,nH y.having,nH y.order,nH y.dw]
def quV (y:xM):Value:=.agg (LH y).toArray
structure Qu.at_ (w:World) (S:Nat->Prop) (q:Qu) (y:xM):Prop where
 items:rp.sl w S y.items q.items
 bS:y.bS=q.bS
 only:y.only=q.only
 bT:IC.sl w S y.bT q.bT
 group:IC.sl w S y.group q.group
 having:IC.sl w S y.having q.having
 order:sB.sl w S y.order q.order
 dw:Sd.sl w S y.dw q.dw
theorem Qu.at_.keep{q:Qu} {y:xM}(hk:∀b,S b->(∀o,w'.cell? ⟨b,o,none⟩=w.cell? ⟨b,o,none⟩)/\S' b)(h:q.at_ w S y):q.at_ w' S' y:=
 ⟨h.items.keep hk,h.bS,h.only,h.bT.keep hk,h.group.keep hk,h.having.keep hk,h.order.keep hk,h.dw.keep hk⟩
theorem Qu.C6 (w:World)(S:Nat->Prop):Qu.at_ w S {} {}:=⟨rp.um _ _,rfl,rfl,IC.um _ _,IC.um _ _,IC.um _ _,sB.um _ _,Sd.um _ _⟩
structure C7 where
 kind:Int:=0
 name:ByteArray:=ByteArray.empty
 cols:Sl:=.nil
 time:ByteArray:=ByteArray.empty
 every:Int:=0
 space:ByteArray:=ByteArray.empty
 parts:Int:=0
 query:xM:= {}
 what:Int:=0
 of_:ByteArray:=ByteArray.empty
 a:Int:=0
 b:Int:=0
 rows:Sl:=.nil
 ahb:Sl:=.nil
 bT:Sl:=.nil
 bS:Val:=jH
 eF:Val:=jH
def C8 (v:Val):List Value:=[ag v.k,af v.n,.string v.s]
def sK (y:C7):List Value:=[ag y.kind,.string y.name,nH y.cols,.string y.time,af y.every,.string y.space,af y.parts]++LH y.query++ [ag y.what,.string y.of_,af y.a,af y.b,nH y.rows,nH y.ahb,nH y.bT]++C8 y.bS++C8 y.eF
def stV (y:C7):Value:=.agg (sK y).toArray
variable{G:Nat}
theorem C9(h:aB w G 46 (bF y).toArray)(hS:S G)(hx:x.at_ w S y):IC.sl w S ⟨some ⟨G,0,none⟩,1,1⟩ [x]:=
 ⟨rfl,[y],OW (f:=bF) ub (by show aB w G _ (bF y++ []).toArray;rw[append_nil];exact h) hS,.one hx⟩
def SG (y:Ex×ByteArray):List Value:=bF y.1++ [.string y.2]
def itV (y:Ex×ByteArray):Value:=.agg (SG y).toArray
theorem dx{a b i:Value}(h:aB w q T #[a,b,c,d,e,f,g,i]):
  w.cell? ⟨q,0,none⟩=some a/\w.cell? ⟨q,1,none⟩=some b/\w.cell? ⟨q,2,none⟩=some c/\w.cell? ⟨q,3,none⟩=some d/\w.cell? ⟨q,4,none⟩=some e/\w.cell? ⟨q,5,none⟩=some f/\w.cell? ⟨q,6,none⟩=some g/\w.cell? ⟨q,7,none⟩=some i:=
 ⟨h.cell 0,h.cell 1,h.cell 2,h.cell 3,h.cell 4,h.cell 5,h.cell 6,h.cell 7⟩
theorem lq(h:aB w q T cs):
  w.frozen? ⟨q,0,none⟩=false/\w.frozen? ⟨q,1,none⟩=false/\w.frozen? ⟨q,2,none⟩=false/\w.frozen? ⟨q,3,none⟩=false/\w.frozen? ⟨q,4,none⟩=false/\w.frozen? ⟨q,5,none⟩=false/\w.frozen? ⟨q,6,none⟩=false/\w.frozen? ⟨q,7,none⟩=false:=
 ⟨h.frozen 0,h.frozen 1,h.frozen 2,h.frozen 3,h.frozen 4,h.frozen 5,h.frozen 6,h.frozen 7⟩
def vX (w:World)(q:Nat)(y:Ex)(v:Value):World:=(dV w q y).setCell ⟨q,7,none⟩ v
theorem eG.vX(h:eG ρ W w σ big)(hW:ρ.g < W.heap.size)(hq:W.heap.size<=q)(y:Ex)(v:Value):eG ρ W (vX w q y v) σ big:=(h.dV hW hq y).far hW hq 7 v
theorem Tr.at_.vX(h:t.at_ w (jm B w) y)(hq:q < B)(z:Ex)(v:Value):t.at_ (vX w q z v) (jm B (Go.Proofs.YtndgjggokjickaaGreatDoor.R.vX w q z v)) y:=(h.dV hq z).set hq 7 v
theorem LI{a b i:Value}(h:aB w q T #[a,b,c,d,e,f,g,i])(y:Ex)(v:Value):aB (vX w q y v) q T (bF y++ [v]).toArray:=by have:=((((((((h.aU 0 (ag y.op)).aU 1 (ag y.v.k)).aU 2 (af y.v.n)).aU 3 (.string y.v.s)).aU 4 (.string y.name)).aU 5 (af y.width)).aU 6 (.slice y.A y.n y.c)).aU 7 v);exact ZdE
def itZ:Obj:=.cells #[ag 0,ag 0,af 0,au,au,af 0,az,au] 48
def kL:List Nat->Nat
 | []=>0
 | a::l=>max a (kL l)
theorem yT:∀(l:List Nat) (a:Nat),kL (l++ [a])=max (kL l) a
 | [],a=>by simp[kL]
 | b::l,a=>by simp only[cons_append,kL,yT l a];omega
theorem Vd{l:List Nat} {i d:Nat}(h:l[i]?=some d):kL (l.take (i+1))=max (kL (l.take i)) d:=by rw[take_add_one,h];exact yT _ _
theorem LJ:∀ {l:List Nat} {d:Nat},d∈l->d<=kL l
 | a::l,d,h=>by
   rcases List.mem_cons.1 h with rfl | h
   ·simp only[kL];omega
   ·have:=LJ h;simp only[kL];omega
theorem vY:∀(l:List Nat) (i:Nat),kL (l.take i)<=kL l
 | [],i=>by simp[kL]
 | a::l,0=>by simp[kL]
 | a::l,i+1=>by have:=vY l i;simp only[take_succ_cons,kL];omega
theorem yU:∀ts:List Tr,Tr.iC ts=kL (ts.map Tr.depth)
 | []=>by simp[Tr.iC,kL]
 | t::ts=>by simp[Tr.iC,kL,yU ts]
def SH (f:FuncId)(w:World)(y:Ex)(d:Nat):Prop:=∀W,aj w W->ar f #[mn y] W λ e w'=>e=.returned (af d)/\aj W w'
theorem LK (w:World)(y:Ex)(ys:List Ex)(ds:List Nat)(S:Nat->Prop)(hS:∀b,S b->b < w.heap.size)(hn:y.n=ys.length)(hA:RL bF 7 w S y.A ys)(hd:ds.length=ys.length)(hD:∀(k:Nat) x d,ys[k]?=some x->ds[k]?=some d->SH 89 w x d)(hm:kL ds<=1000000)(hl:ys.length<=1000000000):SH 89 w y (kL ds+1):=by
 intro W Kx;obtain⟨JL,yv,kS,gO,yA,yn,yc⟩:=y;have hn:yn=ys.length:=hn;subst hn;have HD:=aa hD;have HM:=aa hm;have HDL:=aa hd;have HA:=aa hA;clear hD hm hd hA;unfold mn bF;have HX:=aB.new W 46 #[ag JL,ag yv.k,af yv.n,.string yv.s,.string kS,af gO,.slice yA ys.length yc];have hb:=ah W (.cells #[ag JL,ag yv.k,af yv.n,.string yv.s,.string kS,af gO,.slice yA ys.length yc] 46);go_enter Tryz.func89,Tryz.ntmps89;go_wp2_with fail;generalize W.alloc _=W1 at*;have gX:=aa hb;have HW:=aa Kx;clear hb;go_loopw [3,4] (λ m iv wr=>∃k:Nat,k<=ys.length/\iv=af k/\m=af (kL (ds.take k))/\aj W1 wr) (λ _ iv _=>ys.length - (intOf iv).toNat);case atStart=>exact Zf5
 case round=>
  obtain⟨k,hi,rfl,rfl,hW⟩:=hrel;have x6:=(HX.later hW).cell 6;simp only[Uaa] at x6;have Er:=vY ds k;have Nk:=HM.ae;by_cases hlt:k < ys.length
  ·obtain⟨x,hx⟩:∃x,ys[k]?=some x:=⟨_,getElem?_eq_getElem hlt⟩;obtain⟨d,hdd⟩:∃d,ds[k]?=some d:=⟨_,getElem?_eq_getElem (by rw[HDL.ae];exact hlt)⟩;have hDx:=HD.ae k x d hx hdd;have hdm:=LJ (mem_of_getElem? hdd);have HMT:=aa (Vd hdd);have hwr:aj w wr:=Kx.trans ((ai.then gX.ae hW).mono Kx.size);rcases HA.ae with h0 |⟨b,off,hAe,hSb,hc⟩
   ·subst h0;simp at hlt
   have z:=λ j u hu=>(hwr.cell (p:=⟨b,off+k*7+j,none⟩) (hS b hSb)).trans (hc k x j u hx hu)
   have k0:=z 0 _ rfl;have k1:=z 1 _ rfl;have k2:=z 2 _ rfl;have k3:=z 3 _ rfl;have k4:=z 4 _ rfl;have k5:=z 5 _ rfl;have k6:=z 6 _ rfl;simp only[Nat.add_zero] at k0;clear hx hdd z hc;subst hAe;go_wp2_with fail;refine(hDx wr hwr).mono ?_;rintro e w' ⟨rfl,b'⟩;go_wp2_with fail;go_roundw;case rel=>refine⟨k+1,by omega,by go_num,?_,hW.trans (b'.mono hW.size)⟩;first | rw[HMT.ae,show(max ((kL (ds.take k):Nat):Int) (d:Int))=((max (kL (ds.take k)) d:Nat):Int) by omega] |(rw[HMT.ae];congr 1;split <;> omega)
   case measure=>exact Za0
  ·obtain rfl:k=ys.length:=by omega
   have lN:ds.take ys.length=ds:=take_of_length_le (Nat.le_of_eq HDL.ae);rw[lN] at Er;simp only[lN];go_wp2_with fail;go_ret;exact⟨mP WC,ai.then gX.ae hW⟩
mutual
def Tr.thin:Tr->Prop
 | .mk op v name width args=>args.length<=1000000000/\Tr.yV args
def Tr.yV:List Tr->Prop
 | []=>True
 | t::ts=>t.thin/\Tr.yV ts
end
mutual
theorem Tr.amH {w:World} {S:Nat->Prop}(hS:∀b,S b->b < w.heap.size):∀(t:Tr) (y:Ex),t.at_ w S y->t.thin->t.depth<=1000000->SH 89 w y t.depth
 | .mk op v name width args,y,h,ht,hd=>by unfold Tr.at_ at h;obtain⟨_,_,_,_,hn,ys,hr,ha⟩:=h;unfold Tr.thin at ht;simp only[Tr.depth] at hd ⊢;have hl:=Tr.aO.length ha;rw[yU] at hd ⊢;exact LK w y ys (args.map Tr.depth) S hS (by rw[hn,hl]) hr (by simp[hl]) (Tr.afd hS args ys ha ht.2 WC) WC (by rw[hl];exact ht.1)
theorem Tr.afd {w:World} {S:Nat->Prop}(hS:∀b,S b->b < w.heap.size):∀(ts:List Tr) (ys:List Ex),Tr.aO w S ts ys->Tr.yV ts->kL (ts.map Tr.depth)<=1000000->∀(i:Nat) x d,ys[i]?=some x->(ts.map Tr.depth)[i]?=some d->SH 89 w x d
 | [],ys,h,_,_,i,x,d,hx,hd=>by simp at hd
 | t::ts,ys,h,ht,hm,i,x,d,hx,hd=>by
   unfold Tr.aO at h;obtain⟨y,ys',rfl,h1,h2⟩:=h;unfold Tr.yV at ht;simp only[map_cons,kL] at hm
   match i,hx,hd with
   | 0,hx,hd=>simp at hx hd;subst hx hd;exact Tr.amH hS t y h1 ht.1 WC
   | i+1,hx,hd=>exact Tr.afd hS ts ys' h2 ht.2 WC i x d (by simpa using hx) (by simpa using hd)
end
theorem acn{s:ByteArray} {l:List qY}(h:zK s.data.toList=.ok l) (hs:s.size<=4294967280):
  ar 85 #[.string s] w λ e w'=>∃A c,e=.returned (.tuple #[.slice A l.length c,af 0,af 0])/\Ls w' w.heap.size (.slice A l.length c) l/\aj w w':=by refine(ZO s w hs).mono ?_;intro e w' hp;unfold vQ at hp;rw[h] at hp;obtain⟨v,rfl,ho,hb⟩:=hp;obtain⟨A,c,rfl⟩:=ho.form;exact⟨A,c,rfl,ho,hb⟩
variable{P:Program}
theorem zdv.KaF(h:p:=by exact⟨v',w',hr,ho,ha,h4⟩):p:=h
theorem zQ{f:α->List Value} {e:TypeId}   {lv:Value} {l:List α} {y:α}  (t ty:TypeId)(z:Value)(bytes:Nat)(ht:P.underlying t=some (.slice e))(jr:(P.info? e).map (λ i=>(i.zero,i.size,i.bytes))=some (some z,size,bytes))(hzs:z.cells.size=size)(hsz:0 < size)
  (hf:∀x,(f x).length=size) (h1:∀u∈f y,u.oneCell'=true) (hown:aF f e size w base lv l)
  (g0:Nat) (hg0:aB w g0 e (f y).toArray) (hlen:(l.length+1)*bytes<=140737488355328) (mD:l.length+1<=140737488355328) (hbase:base<=w.heap.size):
  ∃v' w',(Builtin.append_ #[t,t] ty #[lv,aI g0 1 1]).run P w=.ok v' w'/\aF f e size w' base v' (l++ [y])/\AR f e size base lv l y w w'/\(v'.ownBlock=lv.ownBlock\/v'.ownBlock=some w.heap.size):=by
 open zdv in exact ZbD
section
variable {P:Program} {β:Type} (f:β->List Value) (val:β->Value) (e:TypeId) (size base:Nat) (l:List β) (lv:Value) (Post:β->World->World->Prop) (w0:World)
def IM:List Value->World->Prop
 | [],w=>ai w0 w
 | [a],w=>∃y w1 gG,a=val y/\ai w0 w1/\Post y w1 gG/\ai gG w
 | [a,s],w=>∃y w1 gG g0,a=val y/\s=aI g0 1 1/\ai w0 w1/\Post y w1 gG/\ai gG w/\aB w g0 e (f y).toArray
 | [a,s,v],w=>∃y w1 gG w2,a=val y/\ai w0 w1/\Post y w1 gG/\ai gG w2/\aF f e size w2 base lv l/\w2.grownBy w lv.ownBlock/\aF f e size w base v (l++ [y])/\(v.ownBlock=lv.ownBlock\/v.ownBlock=some w2.heap.size)
 | _,_=>False
theorem LM (vs:List Value)(w:World)(h:IM f val e size base l lv Post w0 vs w):IM f val e size base l lv Post w0 vs w.drew:=by
 match vs,h with
 | [],h=>exact ai.trans h (ai.drew _)
 | [a],⟨y,w1,gG,h1,h2,h3,h4⟩=>exact⟨y,w1,gG,h1,h2,h3,h4.trans (ai.drew _)⟩
 | [a,s],⟨y,w1,gG,g0,h1,h2,h3,h4,h5,h6⟩=>exact Zhl
 | [a,s,v],⟨y,w1,gG,w2,h1,h2,h3,h4,h5,h6,h7,h8⟩=>exact⟨y,w1,gG,w2,h1,h2,h3,h4,h5,⟨h6.os,h6.tape,h6.output,h6.size,h6.block⟩,h7.later (ai.drew _),h8⟩
 | _::_::_::_::_,h=>exact h.elim
variable {f val e size base l lv Post w0}
variable {Q:Exit->Act->World->Prop} {a0:Act} {id:Nat} {o0 o1 o2 o3 o4 o5 o6 o7:Oper} {q d0 d1 d2 d3 d4 d5 d6:Tmp} {qb k g:Nat} {pq ptr:Value} {F:FuncId} {args:Array Value}
theorem zcr.Kar(h:p:=by
 have BX:∀vs w,IM f val e size base l lv Post w0 vs w->w.cell? ⟨qb,k,none⟩=some lv:=by exact ZbQ
 refine oQ [o7] [o0,o1,o2,o3,o4,o5,o6] rfl (λ i=>if i=0 then ba qb k else if i=1 then lv else if i=2 then ptr else ba qb k) [3,4,5] (IM f val e size base l lv Post w0) (LM f val e size base l lv Post w0) (ai.refl w0) hm aZ hz hch Taa rfl ?_ ?_
 ·refine⟨Zdg,Zfw,Zdj,Zcz,ZbS,?_,Zdk,trivial⟩
  ·intro ρ w vs hc hG hr;rw[t5] at hr;have r0:=hr.1;have r1:=hr.2.1;simp only[s5] at r0;simp only[s5'] at r1;refine⟨g5,?_⟩;show vs.length=2->_;intro hl
   match vs,hl with
   | [a,s],_=>have r1:some s=some (ρ (.tmp d4)):=r1;injection r1 with r1;obtain⟨y,w1,gG,gg,ha,hs,h2,h3,h4',h5⟩:=hG;obtain⟨k1,k2,k3⟩:=vT h2 h3 h4';obtain⟨v',w',hrun,ho,yy,h4⟩:=zQ (P:=P) (w:=w) t ty z bytes ht jr hzs hsz hf (h1 y) k2 gg h5 hlen mD (Nat.le_trans hbase k3);exact aq (hap ρ w _ v' w' r0 (r1.symm.trans hs) hrun) ⟨y,w1,gG,w,ha,h2,h3,h4',k2,yy.grown,ho,h4⟩
 ·exact Zbw):p:=h
theorem IP (t ty:TypeId)(z:Value)(bytes:Nat)
  (hm:P.follows .mixedOrders=true) (aZ:dN [o0,o1,o2,o3,o4,o5,o6] a0.tmps.size [o0,o1,o2,o3,o4,o5,o6] 0=true) (hz:eL [o0,o1,o2,o3,o4,o5,o6,o7] [o7] 7=true) (hch:lg [o0,o1,o2,o3,o4,o5,o6] [3,4,5]=true) (BW:BV o0 o1 o2 o3 o4 o5 o6 q d0 d1 d2 d3 d4 d5 d6=true)
  (hq:a0.eval (.tmp q)=pq) (h0:a0.eval (.tmp 0)=ptr)
  (hfa:∀ρ w,ρ (.tmp q)=pq->(execOp ρ o0).run P w=.ok (.value (ba qb k)) w) (ZU:∀ρ w,ρ (.tmp q)=pq->(execOp ρ o6).run P w=.ok (.value (ba qb k)) w)
  (hld:∀ρ w,ρ (.tmp d0)=ba qb k->w.cell? ⟨qb,k,none⟩=some lv->(execOp ρ o1).run P w=.ok (.value lv) w)
  (En:∀ρ w,ρ (.tmp 0)=ptr->(execOp ρ o2).run P w=.ok (.value ptr) w)
  (cf:∀ρ w,oz ρ->ρ (.tmp d2)=ptr->(execOp ρ o3).run P w=.ok (.enter F args) w)
  (JM:∀ρ w y,ρ (.tmp d3)=val y->(execOp ρ o4).run P w=.ok (.value (aI w.heap.size 1 1)) (w.alloc (.cells (f y).toArray e)))
  (hap:∀ρ w s v' w',ρ (.tmp d1)=lv->ρ (.tmp d4)=s->(Builtin.append_ #[t,t] ty #[lv,s]).run P w=.ok v' w'->(execOp ρ o5).run P w=.ok (.value v') w')
  (ht:P.underlying t=some (.slice e)) (jr:(P.info? e).map (λ i=>(i.zero,i.size,i.bytes))=some (some z,size,bytes)) (hzs:z.cells.size=size) (hsz:0 < size) (hf:∀x,(f x).length=size) (h1:∀y,∀u∈f y,u.oneCell'=true)
  (hown:aF f e size w0 base lv l) (hcell:w0.cell? ⟨qb,k,none⟩=some lv) (TK:qb≠g) (Xs:lv.ownBlock≠some g) (hlq:lv.ownBlock≠some qb) (hlen:(l.length+1)*bytes<=140737488355328) (mD:l.length+1<=140737488355328) (hbase:base<=w0.heap.size)
  (lQ:∀w,ai w0 w->Calls P F args w λ e w'=>∃y,e=.returned (val y)/\Post y w w') (Sx:∀y w w',Post y w w'->w.grownBy w' (some g))
  (lZ:∀y s v' w1 gG w2 W,ai w0 w1->Post y w1 gG->ai gG w2->aF f e size w2 base lv l->w2.grownBy W lv.ownBlock->aF f e size W base v' (l++ [y])->(v'.ownBlock=lv.ownBlock\/v'.ownBlock=some w2.heap.size)->W.cell? ⟨qb,k,none⟩=some lv->
    wpList P [o0,o1,o2,o3,o4,o5,o6,o7].toArray Q [o7] (((((((a0.put (some d0) (ba qb k)).put (some d1) lv).put (some d2) ptr).put (some d3) (val y)).put (some d4) s).put (some d5) v').put (some d6) (ba qb k)) W):
  (Code.region id [o0,o1,o2,o3,o4,o5,o6,o7].toArray true).wp P Q a0 w0:=by
 open zcr in exact ZaS
end
def D4 (y:Ex×Bool):List Value:=bF y.1++ [.bool y.2]
def orV (y:Ex×Bool):Value:=.agg (D4 y).toArray
def orZ:Obj:=.cells #[ag 0,ag 0,af 0,au,au,af 0,az,.bool false] 117
def xN (B:Nat)(v:Value)(w:World):Nat->Prop:=λ b=>B<=b/\b < w.heap.size/\some b≠v.ownBlock
theorem po{g:Nat}  (h:w.grownBy w' (some g))(hg:g < B):∀b,xN B v w b->(∀o,w'.cell? ⟨b,o,none⟩=w.cell? ⟨b,o,none⟩)/\xN B v w' b:=λ b hb=>
 ⟨cell_of_heap (h.block b hb.2.1 (λ e=>by injection e with e;have:=hb.1;omega)),hb.1,Nat.lt_of_lt_of_le hb.2.1 h.size,hb.2.2⟩
theorem pw(h:aj w w'):∀b,xN B v w b->(∀o,w'.cell? ⟨b,o,none⟩=w.cell? ⟨b,o,none⟩)/\xN B v w' b:=λ b hb=>
 ⟨cell_of_heap (h.block b hb.2.1),hb.1,Nat.lt_of_lt_of_le hb.2.1 h.size,hb.2.2⟩
variable{v':Value}
theorem Cc(h:w.grownBy w' v.ownBlock)(hv:v'.ownBlock=v.ownBlock\/v'.ownBlock=some w.heap.size):∀b,xN B v w b->(∀o,w'.cell? ⟨b,o,none⟩=w.cell? ⟨b,o,none⟩)/\xN B v' w' b:=λ b hb=>
 ⟨cell_of_heap (h.block b hb.2.1 hb.2.2),hb.1,Nat.lt_of_lt_of_le hb.2.1 h.size,λ e=>by
   rcases hv with hv | hv
   ·exact hb.2.2 (e.trans hv)
   ·rw[hv] at e;injection e with e;have:=hb.2.1;omega⟩
variable{B':Nat}
theorem D5(hB:B'<=B)(hv:∀g,v.ownBlock=some g->g < B):∀b,jm B w b->(∀o,w.cell? ⟨b,o,none⟩=w.cell? ⟨b,o,none⟩)/\xN B' v w b:=λ b hb=>
 ⟨λ _=>rfl,Nat.le_trans hB hb.1,hb.2,λ e=>by have:=hv b e.symm;have:=hb.1;omega⟩
theorem LN(hB:B'<=B):∀b,xN B v w b->(∀o,w.cell? ⟨b,o,none⟩=w.cell? ⟨b,o,none⟩)/\jm B' w b:=λ b hb=>⟨λ _=>rfl,Nat.le_trans hB hb.1,hb.2.1⟩
structure km {α:Type} (E:El α) (T:TypeId) (w:World) (B:Nat) (v:Value) (l:List α):Prop where
 has:∃ys:List E.β,aF E.f T E.size w B v ys/\mr (E.rel w (xN B v w)) l ys
section
variable {α:Type} {E:El α} {T:TypeId} {w w':World} {B g:Nat} {v:Value} {l:List α}
theorem km.Pt (h:km E T w B v l) {G:Nat}(hG:v.ownBlock=some G):B<=G/\G < w.heap.size:=by obtain⟨ys,h1,h2⟩:=h.has;exact⟨(h1.lt hG).2.1,(h1.lt hG).1⟩
theorem km.grown (h:km E T w B v l)(hb:w.grownBy w' (some g))(hg:g < B):km E T w' B v l:=by obtain⟨ys,h1,h2⟩:=h.has;exact⟨ys,h1.grown hb (λ e=>by have:=(h1.lt e).2.1;omega),h2.imp λ x y=>E.keep (po hb hg)⟩
theorem km.sl (h:km E T w B v l) {B':Nat}(hB:B'<=B):∃y:Sl,v=nH y/\y.n=l.length/\E.sl w (jm B' w) y l:=by obtain⟨ys,h1,h2⟩:=h.has;obtain⟨A,c,hv,hr⟩:=Pm E.hf h1 (S:=jm B' w) (λ g h3 h4=>⟨by omega,h4⟩);refine⟨⟨A,l.length,c⟩,?_,rfl,rfl,ys,hr,h2.imp λ x y=>E.keep (LN hB)⟩;rw[hv,h2.len];rfl
theorem km.nil (E:El α)(T:TypeId)(w:World)(B:Nat):km E T w B (az) []:=⟨[],aF.nil,.nil⟩
end
def SlW (ρ:dt)(w:World)(l:List Tr)(r:dH)(e:Ending)(w':World):Prop:=∃y:Sl,e=.returned (nH y)/\IC.sl w' (jm w.heap.size w') y l/\eG ρ w w' (.good r) false
theorem FW{s:ByteArray} (hs:dI s.data.toList r=false)(ρ:dt)(w:World)(h:ρ.at w (.good r) false):ar 142 #[ρ.ptr,.string s] w (SlW ρ w [] r):=by have HL:=cq ρ w _ false h s hs;clear hs;go_enter Tryz.func142,Tryz.ntmps142;go_wp2_with fail;refine HL.mono ?_;rintro e w1 ⟨rfl,b1⟩;go_wp2_with fail;go_ret;exact⟨Sl.nil,rfl,El.um _ _ _,b1⟩
theorem Pu{s:ByteArray} {k:Wd}  (hs:iV s.data.toList k=true)(H:cT 0 l x r)(ρ:dt)(w:World)(h:ρ.at w (.good (k::l)) false):ar 142 #[ρ.ptr,.string s] w (SlW ρ w [x] r):=by have HL:=nT ρ w _ false h s hs;have eh:=h.FP;have HH:=aa H;clear hs H;go_enter Tryz.func142,Tryz.ntmps142;go_wp2_with fail;refine HL.mono ?_;rintro e w1 ⟨rfl,b1⟩;go_wp2_with fail;refine(HH.ae ρ _ b1.at_).mono ?_;rintro e w2 ⟨y,rfl,ht,d2⟩;unfold mn bF;go_wp2_with fail;go_ret;have hs:=b1.size;exact⟨⟨some ⟨w2.heap.size,0,none⟩,1,1⟩,rfl,C9 (aB.new w2 _ _) ⟨by have:=d2.size;omega,by simp⟩ ((ht.later (ah w2 _)).more hs),(b1.trans d2).later (ah w2 (uh y))⟩
theorem IQ(hc:iV dL u=false)(n:Nat)(hn:n<=64)(ρ:dt)(w:World)(h:ρ.at w (.good (u::r)) false):
  ar 140 #[ρ.ptr,af n] w λ e w'=>e=.returned (.bool false)/\eG ρ w w' (.good (u::r)) false:=by have hh:(ck.good (u::r)).head dL=false:=hc;have:=FQ ρ w _ false h n WC;rw[hh,je hh,show(false || decide (64 < n))=false by simp;omega] at this;exact this
theorem D7(hc:iV dL u=true)(n:Nat)(hn:n<=64)(ρ:dt)(w:World)(h:ρ.at w (.good (u::r)) false):
  ar 140 #[ρ.ptr,af n] w λ e w'=>e=.returned (.bool true)/\eG ρ w w' (.good r) false:=by have hh:(ck.good (u::r)).head dL=true:=hc;have:=FQ ρ w _ false h n WC;rw[hh,jQ hh,show(false || decide (64 < n))=false by simp;omega] at this;exact this
theorem Ve(hc:iV dL u=false)(H:cT 0 l x (u::r))(ρ:dt)(w:World)(h:ρ.at w (.good l) false):ar 179 #[ρ.ptr] w (SlW ρ w [x] (u::r)):=by
 have eh:=h.FP;have HM:=aa (λ ρ w h=>IQ (r:=r) hc 1 WC ρ w h);have HH:=aa H;clear hc H;go_enter Tryz.func179,Tryz.ntmps179;go_wp2_with fail;refine(HH.ae ρ _ h).mono ?_;rintro e w2 ⟨y,rfl,ht,d2⟩;unfold mn bF;have hs2:=d2.size;go_wp2_with fail;have HD:=aa (d2.later (ah w2 (uh y)));have HX:=aa (aB.new w2 46 (bF y).toArray);have HT:=aa (ht.later (ah w2 (uh y)));unfold uh bF at HD HX HT;clear ht d2;generalize hW3:w2.alloc _=W3 at*;generalize w2.heap.size=g at*;clear hW3;go_loopg [3] 0 (λ k v wr=>v=aI g 1 1/\wr=W3);case atStart=>exact Zfo
 case round=>obtain⟨hv,rfl⟩:=hrel;subst hv;go_wp2_with fail;refine(HM.ae ρ _ HD.ae.at_).mono ?_;rintro e w4 ⟨rfl,d4⟩;go_wp2_with fail;go_ret;have hX:=d4.blk HX.ae WC;exact⟨⟨some ⟨g,0,none⟩,1,1⟩,rfl,C9 hX ⟨hs2,hX.lt⟩ (HT.ae.grown d4.grown WC),HD.ae.trans d4⟩
def ElW(E:El α)(val:E.β->Value)(ρ:dt)(W:World)(x:α)(r:dH)(e:Ending)(w':World):Prop:=∃y:E.β,e=.returned (val y)/\E.rel w' (jm W.heap.size w') x y/\eG ρ W w' (.good r) false
theorem Pv{k:Wd} (hk:iV OQ k=true)(H:cT 0 l x (k::r))(ρ:dt)(w:World)(h:ρ.at w (.good l) false):ar 180 #[ρ.ptr] w (ElW sB orV ρ w (x,true) r):=by
 have HK:=aa hk;have HH:=aa H;clear hk H;have eh:=h.FP;have hb:=ah w orZ;have h0:=h.later hb;have HQ:=aa (aB.new w 117 #[ag 0,ag 0,af 0,au,au,af 0,az,.bool false]);have hsz:(w.alloc orZ).heap.size=w.heap.size+1:=by simp
 unfold orZ at*;go_enter Tryz.func180,Tryz.ntmps180;go_wp2_with fail;refine(HH.ae ρ _ h0).mono ?_;rintro e w2 ⟨y,rfl,ht,d2⟩;unfold mn bF;have hs2:=d2.size;go_wp2_with fail;have D3:=((eG.cY h hb).trans d2).later (ah w2 (.cells (D4 (y,false)).toArray 117));have HX:=aB.new w2 117 (D4 (y,false)).toArray;have mU:=(d2.blk HQ.ae WC).alloc (.cells (D4 (y,false)).toArray 117);have htx:=Tr.at_.keep (OV (.cells (D4 (y,false)).toArray 117) (show w.heap.size+1<=_ by omega)) _ _ ht;have hs3:(w2.alloc (.cells (D4 (y,false)).toArray 117)).heap.size=w2.heap.size+1:=by simp
 unfold D4 bF at D3 HX mU htx hs3;simp only[cons_append,nil_append] at D3 HX mU htx hs3;generalize w2.alloc _=W3 at*;have hm:=nT ρ W3 _ false D3.at_ ⟨#[100,101,115,99]⟩ HK.ae;clear h0 hb HQ ht d2;refine hm.mono ?_;rintro e w4 ⟨rfl,d4⟩;have Av:=d4.blk HX WC;have hx2:=HX.lt;have DX:=Av.aU 7 (.bool true);simp only[setIfInBounds_toArray,set_cons_zero,set_cons_succ] at DX;have hxf:=Av.frozen 7;have hxc:=Av.cell 7;have D8:=(d4.blk mU WC).far (p:=⟨w2.heap.size,7,none⟩) Tab (.bool true);have D6:=(D3.trans d4).far eh (show w.heap.size<=w2.heap.size by omega) 7 (.bool true);have wU:=aa (Tr.at_.keep (OU (Nat.le_refl _)) _ _ (Tr.at_.keep (Zu 7 (.bool true)) _ _ (Tr.at_.keep (vN d4.grown WC) _ _ htx)));have Xu:=aa D6;have Pp:=aa D8;obtain⟨x0,x1,x2,x3,x4,x5,x6,x7⟩:=dx DX;obtain⟨y0,y1,y2,y3,y4,y5,y6,y7⟩:=dx D8;obtain⟨z0,z1,z2,z3,z4,z5,z6,z7⟩:=lq D8;clear Av DX D8 HX mU D3 d4 hm D6 hx2;go_wp2_with fail;have HP:=LI Pp.ae y (.bool true);have HR:=dx HP;unfold vX dV at HR;obtain⟨r0,r1,r2,r3,r4,r5,r6,r7⟩:=HR;refine bodyPost_ret (v:=orV (y,true)) ?_ rfl ?_
 ·simp[results,Tryz.results180,go_sem,r0,r1,r2,r3,r4,r5,r6,r7];rfl
 ·exact⟨(y,true),rfl,⟨(wU.ae.vX (Nat.lt_succ_self _) y (.bool true)).more WC,rfl⟩,Xu.ae.vX eh (Nat.le_refl _) y (.bool true)⟩
theorem Ce{k:Wd} (hk:iV abT k=false)(H:cT 0 l x (k::r))(ρ:dt)(w:World)(h:ρ.at w (.good l) false):ar 178 #[ρ.ptr] w (ElW rp itV ρ w (x,ByteArray.empty) (k::r)):=by
 have HK:=aa hk;have HH:=aa H;clear hk H;have eh:=h.FP;have hb:=ah w itZ;have h0:=h.later hb;have HQ:=aa (aB.new w 48 #[ag 0,ag 0,af 0,au,au,af 0,az,au]);have hsz:(w.alloc itZ).heap.size=w.heap.size+1:=by simp
 unfold itZ at*;go_enter Tryz.func178,Tryz.ntmps178;go_wp2_with fail;refine(HH.ae ρ _ h0).mono ?_;rintro e w2 ⟨y,rfl,ht,d2⟩;unfold mn bF;have hs2:=d2.size;go_wp2_with fail;have D3:=((eG.cY h hb).trans d2).later (ah w2 (.cells (SG (y,⟨#[]⟩)).toArray 48));have HX:=aB.new w2 48 (SG (y,⟨#[]⟩)).toArray;have mU:=(d2.blk HQ.ae WC).alloc (.cells (SG (y,⟨#[]⟩)).toArray 48);have ht3:=(ht.later (ah w2 (.cells (SG (y,⟨#[]⟩)).toArray 48))).more (B':=w.heap.size+1) WC;unfold SG bF at D3 HX mU ht3;simp only[cons_append,nil_append] at D3 HX mU ht3;generalize w2.alloc _=W3 at*;have hm:=cq ρ W3 _ false D3.at_ ⟨#[97,115]⟩ HK.ae;clear h0 hb HQ ht d2;refine hm.mono ?_;rintro e w4 ⟨rfl,d4⟩;have DX:=d4.blk HX WC;have D8:=d4.blk mU WC;have HT4:=aa (ht3.grown d4.grown WC);have HD4:=aa (D3.trans d4);have Pp:=aa D8;obtain⟨x0,x1,x2,x3,x4,x5,x6,x7⟩:=dx DX;obtain⟨y0,y1,y2,y3,y4,y5,y6,y7⟩:=dx D8;obtain⟨z0,z1,z2,z3,z4,z5,z6,z7⟩:=lq D8;clear DX D8 HX mU ht3 D3 d4 hm;go_wp2_with fail;have HP:=LI Pp.ae y (au);have HR:=dx HP;unfold vX dV at HR;obtain⟨r0,r1,r2,r3,r4,r5,r6,r7⟩:=HR;refine bodyPost_ret (v:=itV (y,⟨#[]⟩)) ?_ rfl ?_
 ·simp[results,Tryz.results178,go_sem,r0,r1,r2,r3,r4,r5,r6,r7];rfl
 ·exact⟨(y,⟨#[]⟩),rfl,⟨(HT4.ae.vX (Nat.lt_succ_self _) y (au)).more WC,rfl⟩,HD4.ae.vX eh (Nat.le_refl _) y (au)⟩
section
variable {σ:ck}
end
section
variable {α β:Type} {P k:Ps α} {σ yQ:ck} {p:Ps β} {f:β->Ps α} {x:β} {z:α}
end
section
variable {α β γ:Type}
end
section
variable {α β:Type} {n:Nat} {p:Ps α} {Q Q':α->Prop} {R:β->Prop}
end
section
variable {n:Nat}
end
def aco (t:Wd):Prop:=(0<=t.n/\t.n<=9223372036854775807)/\(t.k=4->t.s∈signs)
variable{rest:List UInt8}
theorem acp{r:List UInt8} {w:Wd}(h:ij r=.ok (w,rest)):aco w:=by
 match r with
 | []=>cases h
 | c::r=>
   simp only[ij] at h;split at h
   ·exact ZeY
   split at h
   ·split at h
    ·rename_i hb;injection h with h;injection h with h1 h2;subst h1;refine⟨?_,λ e=>by simp at e⟩;simp only[Bool.and_eq_true,vL,decide_eq_true_eq] at hb;have:=hb.1.2;simp only;omega
    ·cases h
   split at h
   ·exact ZeY
   ·split at h
    ·rename_i s hs;injection h with h;injection h with h1 h2;subst h1;exact⟨⟨by simp,by simp⟩,λ _=>(rb hs).1⟩
    ·cases h
theorem LO (n:Nat):∀(f:Nat) (r:List UInt8) (l:List qY),xy n f r=.ok l->(∃b,l=b++ [⟨⟨0,[],0⟩,n⟩])/\l.length<=r.length+1/\∀t∈l,aco t.w
 | 0,r,l,h=>by cases h
 | f+1,r,l,h=>by
   have hle:=jY false r;simp only[xy] at h;split at h
   ·injection h with h;subst h;exact⟨⟨[],rfl⟩,by simp,λ t ht=>by simp at ht;subst ht;exact⟨⟨by simp,by simp⟩,λ e=>by simp at e⟩⟩
   ·rename_i c r' hsk;rw[hsk] at hle;split at h
    ·cases h
    ·rename_i w rest ho;have hlt:=Am ho;split at h
     ·cases h
     ·rename_i l' hl';injection h with h;subst h;obtain⟨⟨b,hb⟩,h1,h2⟩:=LO n f rest l' hl';refine⟨⟨⟨w,_⟩::b,by rw[hb];rfl⟩,by simp only[length_cons] at hlt hle ⊢;omega,λ t ht=>?_⟩;rcases List.mem_cons.1 ht with rfl | ht
      ·exact acp ho
      ·exact h2 t ht
theorem SJ{s:List UInt8} {l:List qY}(h:zK s=.ok l):(∃b n,l=b++ [⟨⟨0,[],0⟩,n⟩])/\l.length<=4097/\∀t∈l,aco t.w:=by
 unfold zK at h;split at h
 ·cases h
 ·rename_i hs;obtain⟨⟨b,hb⟩,h1,h2⟩:=LO _ _ _ _ h;exact⟨⟨b,_,hb⟩,by omega,h2⟩
theorem Vf{s:List UInt8} {l:List qY}(h:zK s=.ok l):yM (l.map (·.w)):=by obtain⟨⟨b,n,rfl⟩,_⟩:=SJ h;exact⟨b.map (·.w),⟨0,[],0⟩,by simp,rfl⟩
theorem FX:(Tryz.prog.info? 48).map (λ i=>(i.zero,i.size,i.bytes))=some (some (.agg #[ag 0,ag 0,af 0,au,au,af 0,az,au]),8,104):=by exact Zgn
def afe(E:El α)(lng:α->Bool)(ρ:dt)(p:Ps α)(σ:ck)(big:Bool)(y:E.β)(w w':World):Prop:=∃x:α,E.rel w' (jm w.heap.size w') x y/\eG ρ w w' (dp p σ) (big || lng x)/\jZ p σ x
variable{lng:α->Bool}{w0 w1 gG w2:World}{acc:List α}
theorem Pw{p:Ps α}       {y:E.β}(hB:w0.heap.size<=B)(hg:ρ.g < w0.heap.size)(hR:km E T wr B v acc)(hBr:B<=wr.heap.size)(hD:eG ρ w0 wr σ big)(ft:ai wr w1)(hp:afe E lng ρ p σ big y w1 gG)(hl2:ai gG w2)(bI:w2.grownBy W v.ownBlock)
  (ys:List E.β) (Ln:aF E.f T E.size W B v' (ys++ [y])) (hys:mr (E.rel wr (xN B v wr)) acc ys) (hv:v'.ownBlock=v.ownBlock\/v'.ownBlock=some w2.heap.size):
  ∃x:α,km E T W B v' (acc++ [x])/\eG ρ w0 W (dp p σ) (big || lng x)/\jZ p σ x:=by
 obtain⟨x,hx,hd,Xv⟩:=hp;have hgB:ρ.g < B:=by omega
 have own:∀G,v.ownBlock=some G->B<=G/\G < wr.heap.size:=λ G hG=>hR.Pt hG
 refine⟨x,⟨ys++ [y],Ln,mr.append ?_ (.one ?_)⟩,?_,Xv⟩
 ·exact hys.imp λ a b hab=>E.keep (Cc bI hv) (E.keep (pw hl2) (E.keep (po hd.grown hgB) (E.keep (pw ft) hab)))
 ·refine E.keep (Cc bI hv) (E.keep (D5 (B:=w1.heap.size) (B':=B) (Nat.le_trans hBr ft.size) λ G hG=>?_) (E.keep (iU hl2) hx));exact Nat.lt_of_lt_of_le (own G hG).2 ft.size
 ·exact(((hD.later ft).trans hd).later hl2).own hg bI λ G hG=>by have:=(own G hG).1;omega
theorem LP(hq:q < B)(i:Nat)(u:Value):∀b,xN B v w b->(∀o,(w.setCell ⟨q,i,none⟩ u).cell? ⟨b,o,none⟩=w.cell? ⟨b,o,none⟩)/\xN B v (w.setCell ⟨q,i,none⟩ u) b:=λ b hb=>
 ⟨cell_of_heap (Below.heap_setCell w ⟨q,i,none⟩ u b (by have:=hb.1;simp;omega)),hb.1,by simpa [World.setCell] using hb.2.1,hb.2.2⟩
theorem km.far{l:List α}(h:km E T w B v l)(hq:q < B)(i:Nat)(u:Value):km E T (w.setCell ⟨q,i,none⟩ u) B v l:=by
 have ve:=λ G hG=>(h.Pt (G:=G) hG).1
 obtain⟨ys,h1,h2⟩:=h.has;exact⟨ys,h1.keep λ g hg=>Below.heap_setCell w ⟨q,i,none⟩ u g (by have:=ve g hg;simp;omega),h2.imp λ x y=>E.keep (LP hq i u)⟩
def quZ:Obj:=.cells #[az,au,.bool false,az,az,az,az,az] 27
theorem Px:(Tryz.prog.info? 117).map (λ i=>(i.zero,i.size,i.bytes))=some (some (.agg #[ag 0,ag 0,af 0,au,au,af 0,az,.bool false]),8,96):=by exact Zgn
def zR (w:World)(q:Nat)(m:xM):World:=(((((((w.setCell ⟨q,0,none⟩ (nH m.items)).setCell ⟨q,1,none⟩ (.string m.bS)).setCell ⟨q,2,none⟩ (.bool m.only)).setCell ⟨q,3,none⟩ (nH m.bT)).setCell ⟨q,4,none⟩ (nH m.group)).setCell ⟨q,5,none⟩ (nH m.having)).setCell ⟨q,6,none⟩ (nH m.order)).setCell ⟨q,7,none⟩ (nH m.dw)
theorem LQ{a b i:Value}(h:aB w q T #[a,b,c,d,e,f,g,i])(m:xM):aB (zR w q m) q T (LH m).toArray:=by have:=(((((((h.aU 0 (nH m.items)).aU 1 (.string m.bS)).aU 2 (.bool m.only)).aU 3 (nH m.bT)).aU 4 (nH m.group)).aU 5 (nH m.having)).aU 6 (nH m.order)).aU 7 (nH m.dw);exact ZdE
theorem eG.zR(h:eG ρ W w σ big)(hW:ρ.g < W.heap.size)(hq:W.heap.size<=q)(m:xM):eG ρ W (zR w q m) σ big:=
 (((((((h.far hW hq 0 _).far hW hq 1 _).far hW hq 2 _).far hW hq 3 _).far hW hq 4 _).far hW hq 5 _).far hW hq 6 _).far hW hq 7 _
variable{m:xM}
theorem Qu.at_.zR{d:Qu} (h:d.at_ w (jm B w) m)(hq:q < B)(m':xM):d.at_ (zR w q m') (jm B (Go.Proofs.YtndgjggokjickaaGreatDoor.R.zR w q m')) m:=by
 have s:=λ(w:World) (h:d.at_ w (jm B w) m) (i:Nat) (u:Value)=>Qu.at_.keep (sD (w:=w) hq i u) h
 exact s _ (s _ (s _ (s _ (s _ (s _ (s _ (s _ h 0 _) 1 _) 2 _) 3 _) 4 _) 5 _) 6 _) 7 _
theorem acr{k:Int}(h:aB w G 2 #[af k])(hS:S G):Sd.sl w S ⟨some ⟨G,0,none⟩,1,1⟩ [k]:=
 ⟨rfl,[k],OW (f:=λ k:Int=> [Value.int .i64 k]) (λ _=>rfl) h hS,.one rfl⟩
section
variable {ρ:dt} {w wr w2:World} {big:Bool} {σ yQ:ck} {m:xM} {d:Qu}
end
inductive acs (s:List UInt8):dH->List Tr->dH->Prop
 | none {l:dH} (h:dI s l=false):acs s l [] l
 | some {k:Wd} {l r:dH} {x:Tr} (h:iV s k=true) (H:cT 0 l x r):acs s (k::l) [x] r
inductive uo:dH->List (Tr×ByteArray)->dH->Prop
 | one {l r:dH} {u:Wd} {x:Tr} (H:cT 0 l x (u::r)) (ha:iV abT u=false) (hc:iV dL u=false):uo l [(x,ByteArray.empty)] (u::r)
 | cons {l l2 r:dH} {c:Wd} {x:Tr} {xs:List (Tr×ByteArray)} (H:cT 0 l x (c::l2)) (ha:iV abT c=false) (hc:iV dL c=true) (h:uo l2 xs r):uo l ((x,ByteArray.empty)::xs) r
inductive SK:dH->List (Tr×ByteArray)->dH->Prop
 | done {r:dH} {u:Wd} (hc:iV dL u=false):SK (u::r) [] (u::r)
 | more {l r:dH} {c:Wd} {xs:List (Tr×ByteArray)} (hc:iV dL c=true) (h:uo l xs r):SK (c::l) xs r
variable{xs:List (Tr×ByteArray)}
theorem uo.first(h:uo l xs r):∃(x:Tr) (ys:List (Tr×ByteArray)) (c:Wd) (l2:dH),xs=(x,ByteArray.empty)::ys/\cT 0 l x (c::l2)/\iV abT c=false/\SK (c::l2) ys r:=by
 cases h with
 | one H ha hc=>exact⟨_,_,_,_,rfl,H,ha,.done hc⟩
 | cons H ha hc h=>exact⟨_,_,_,_,rfl,H,ha,.more hc h⟩
inductive ahz:dH->List Tr->dH->Prop
 | none {l:dH} (h:dI Aq l=false):ahz l [] l
 | some {k b u:Wd} {l r:dH} {x:Tr} (h:iV Aq k=true) (hb:iV OO b=true) (hc:iV dL u=false) (H:cT 0 l x (u::r)):ahz (k::b::l) [x] (u::r)
inductive ahA:dH->List (Tr×Bool)->dH->Prop
 | none {l:dH} (h:dI Iw l=false):ahA l [] l
 | some {k b d u:Wd} {l r:dH} {x:Tr} (h:iV Iw k=true) (hb:iV OO b=true) (hd:iV OQ d=true) (hc:iV dL u=false) (H:cT 0 l x (d::u::r)):ahA (k::b::l) [(x,true)] (u::r)
inductive ahB:dH->List Int->dH->Prop
 | none {l:dH} (h:dI Ix l=false):ahB l [] l
 | some {k n:Wd} {r:dH} (h:iV Ix k=true) (hn:n.k=2):ahB (k::n::r) [n.n] r
structure Xw (ρ:dt) (w wr:World) (l:dH) (m:xM) (d:Qu):Prop where
 did:eG ρ w wr (.good l) false
 blk:aB wr (w.heap.size+1) 27 (LH m).toArray
 res:aB wr w.heap.size 27 #[az,au,.bool false,az,az,az,az,az]
 at_:d.at_ wr (jm (w.heap.size+2) wr) m
section
variable {ρ:dt} {w wr w2:World} {l r:dH} {m:xM} {d:Qu}
theorem Xw.later (A:Xw ρ w wr l m d)(hb:aj wr w2):Xw ρ w w2 l m d:=
 ⟨A.did.later hb,A.blk.later hb,A.res.later hb,Qu.at_.keep (iU hb) A.at_⟩
theorem Xw.Es (A:Xw ρ w wr l m d)(hg:ρ.g < w.heap.size)(dd:eG ρ wr w2 (.good r) false):Xw ρ w w2 r m d:=
 ⟨A.did.trans dd,dd.blk A.blk WC,dd.blk A.res WC,Qu.at_.keep (lD dd.grown WC) A.at_⟩
theorem Xw.set {m':xM} {d':Qu}(A:Xw ρ w wr l m d)(hg:ρ.g < w.heap.size)(i:Nat)(u:Value)(hb:(LH m').toArray=(LH m).toArray.setIfInBounds i u)(hat:Qu.at_ wr (jm (w.heap.size+2) wr) d' m'):Xw ρ w (wr.setCell ⟨w.heap.size+1,i,none⟩ u) l m' d':=by refine⟨A.did.far hg WC i u,?_,A.res.far (p:=⟨w.heap.size+1,i,none⟩) Tac u,Qu.at_.keep (sD WC i u) hat⟩;rw[hb];exact A.blk.aU i u
end
def amI(x:α)(r:dH):Ps α:=λ _=> .ok (x,r)
structure PuA {α:Type} (E:El α) (T:TypeId) (ρ:dt) (w wr:World) (l:dH) (k:Nat) (v:Value) (acc:List α) (cs:List Value) (m:xM) (d:Qu):Prop where
 row:km E T wr (w.heap.size+2) v acc
 did:eG ρ w wr (.good l) false
 blk:aB wr (w.heap.size+1) 27 cs.toArray
 res:aB wr w.heap.size 27 #[az,au,.bool false,az,az,az,az,az]
 at_:d.at_ wr (xN (w.heap.size+2) v wr) m
 cel:cs[k]?=some v
theorem PuA.Es{cs:List Value}  {d:Qu}(A:PuA E T ρ w wr l k v acc cs m d)(hg:ρ.g < w.heap.size)(dd:eG ρ wr w2 (.good r) false):PuA E T ρ w w2 r k v acc cs m d:=
 ⟨A.row.grown dd.grown WC,A.did.trans dd,dd.blk A.blk WC,dd.blk A.res WC,Qu.at_.keep (po dd.grown WC) A.at_,A.cel⟩
variable{m':xM}{d':Qu}
theorem PuA.done{cs:List Value}  {d:Qu}(A:PuA E T ρ w wr l k v acc cs m d)(hm:(LH m').toArray=cs.toArray)(hat:Qu.at_ wr (jm (w.heap.size+2) wr) d' m'):Xw ρ w wr l m' d':=
 ⟨A.did,hm▸A.blk,A.res,hat⟩
variable{val:E.β->Value}{z:Value}{bytes:Nat}{Q:Exit->Act->World->Prop}{a0:Act}{rid:Nat}{o0 o1 o2 o3 o4 o5 o6 o7:Oper}{d4 d5 d6:Tmp}{F:FuncId}
theorem Py{x:α}  {lv:Value}  {cs:List Value}  {d:Qu}     {q d0 d1 d2 d3:Tmp} (t ty:TypeId)
  (A:PuA E T ρ w wr l k lv acc cs m d) (eh:ρ.g < w.heap.size) (hn:acc.length<=64) (hby:bytes<=1000)
  (hc:∀w',ρ.at w' (.good l) false->ar F #[ρ.ptr] w' (ElW E val ρ w' x r))
  (aZ:dN [o0,o1,o2,o3,o4,o5,o6] a0.tmps.size [o0,o1,o2,o3,o4,o5,o6] 0=true) (hz:eL [o0,o1,o2,o3,o4,o5,o6,o7] [o7] 7=true) (hch:lg [o0,o1,o2,o3,o4,o5,o6] [3,4,5]=true) (BW:BV o0 o1 o2 o3 o4 o5 o6 q d0 d1 d2 d3 d4 d5 d6=true)
  (hq:a0.eval (.tmp q)=aw (w.heap.size+1)) (h0:a0.eval (.tmp 0)=ρ.ptr)
  (hfa:∀ρ' w',ρ' (.tmp q)=aw (w.heap.size+1)->(execOp ρ' o0).run Tryz.prog w'=.ok (.value (ba (w.heap.size+1) k)) w')
  (ZU:∀ρ' w',ρ' (.tmp q)=aw (w.heap.size+1)->(execOp ρ' o6).run Tryz.prog w'=.ok (.value (ba (w.heap.size+1) k)) w')
  (hld:∀ρ' w',ρ' (.tmp d0)=ba (w.heap.size+1) k->w'.cell? ⟨w.heap.size+1,k,none⟩=some lv->(execOp ρ' o1).run Tryz.prog w'=.ok (.value lv) w')
  (En:∀ρ' w',ρ' (.tmp 0)=ρ.ptr->(execOp ρ' o2).run Tryz.prog w'=.ok (.value ρ.ptr) w')
  (cf:∀ρ' w',oz ρ'->ρ' (.tmp d2)=ρ.ptr->(execOp ρ' o3).run Tryz.prog w'=.ok (.enter F #[ρ.ptr]) w')
  (JM:∀ρ' w' y,ρ' (.tmp d3)=val y->(execOp ρ' o4).run Tryz.prog w'=.ok (.value (aI w'.heap.size 1 1)) (w'.alloc (.cells (E.f y).toArray T)))
  (hap:∀ρ' w' s v' ZV,ρ' (.tmp d1)=lv->ρ' (.tmp d4)=s->(Builtin.append_ #[t,t] ty #[lv,s]).run Tryz.prog w'=.ok v' ZV->(execOp ρ' o5).run Tryz.prog w'=.ok (.value v') ZV)
  (ht:Tryz.prog.underlying t=some (.slice T)) (jr:(Tryz.prog.info? T).map (λ i=>(i.zero,i.size,i.bytes))=some (some z,E.size,bytes)) (hzs:z.cells.size=E.size) (hsz:0 < E.size) (hf:∀x,(E.f x).length=E.size) (h1:∀y,∀u∈E.f y,u.oneCell'=true)
  (lZ:∀y s v' W,PuA E T ρ w (W.setCell ⟨w.heap.size+1,k,none⟩ v') r k v' (acc++ [x]) (cs.set k v') m d->W.cell? ⟨w.heap.size+1,k,none⟩=some lv->W.frozen? ⟨w.heap.size+1,k,none⟩=false->
    wpList Tryz.prog [o0,o1,o2,o3,o4,o5,o6,o7].toArray Q [o7] (((((((a0.put (some d0) (ba (w.heap.size+1) k)).put (some d1) lv).put (some d2) ρ.ptr).put (some d3) (val y)).put (some d4) s).put (some d5) v').put (some d6) (ba (w.heap.size+1) k)) W):
  (Code.region rid [o0,o1,o2,o3,o4,o5,o6,o7].toArray true).wp Tryz.prog Q a0 wr:=by
 obtain⟨ys,ho,ha⟩:=A.row.has;have hyl:ys.length=acc.length:=ha.len;have how:=λ G hG=>A.row.Pt (G:=G) hG
 have hwr:=A.blk.lt;refine IP (P:=Tryz.prog) (f:=E.f) (val:=val) (e:=T) (size:=E.size) (base:=w.heap.size+2) (l:=ys) (lv:=lv) (Post:=afe E (λ _=>false) ρ (amI x r) (.good l) false) (w0:=wr) (qb:=w.heap.size+1) (k:=k) (g:=ρ.g) (ptr:=ρ.ptr) (F:=F) (args:= #[ρ.ptr]) t ty z bytes Va aZ hz hch BW hq h0 hfa ZU hld En cf JM hap ht jr hzs hsz hf h1 ho ((A.blk.cell k).trans (by simpa using A.cel)) WC (λ e'=>by have:=(how _ e').1;omega) (λ e'=>by have:=(how _ e').1;omega) (Nat.le_trans (Nat.mul_le_mul (show _<=65 by omega) hby) Taa) WC WC ?_ ?_ ?_
 ·intro w' hw';refine(hc w' (A.did.at_.later hw')).mono ?_;rintro e w'' ⟨y,rfl,hx,hd⟩;exact⟨y,rfl,x,hx,by rw[Bool.or_false];exact hd,rfl⟩
 ·rintro y w' w'' ⟨x,hx,hd,hv⟩;exact hd.grown
 ·intro y s v' w4 w4' w5 W ft hp hl2 Rx bI Ln NK Eo;obtain⟨_,_,dd,_⟩:=id hp;have hs1:=ft.size;have hs2:=dd.size;have hs3:=hl2.size;obtain⟨x',hgr,hdd,Xv⟩:=Pw (E:=E) (T:=T) (lng:=λ _=>false) (B:=w.heap.size+2) (acc:=acc) WC eh A.row WC A.did ft hp hl2 bI ys Ln ha NK;obtain rfl:x'=x:=Xv;have hnq:∀(q:Nat),q < w.heap.size+2->some q≠lv.ownBlock:=λ q hq e'=>by have:=(how q e'.symm).1;omega
  have HX:=(((A.blk.later ft).grown dd.grown Tab).later hl2).grown bI (hnq _ WC);have HR:=(((A.res.later ft).grown dd.grown Tab).later hl2).grown bI (hnq _ WC);have kB:=HX.aU k v';simp only[setIfInBounds_toArray] at kB;refine lZ y s v' W ⟨hgr.far WC k v',by have:=hdd.far eh (show w.heap.size<=w.heap.size+1 by omega) k v';rwa [Bool.or_false] at this,kB,HR.far (p:=⟨w.heap.size+1,k,none⟩) Tac v',Qu.at_.keep (LP (show w.heap.size+1 < w.heap.size+2 by omega) k v') (Qu.at_.keep (Cc bI NK) (Qu.at_.keep (pw hl2) (Qu.at_.keep (po dd.grown WC) (Qu.at_.keep (pw ft) A.at_)))),?_⟩ Eo (HX.frozen k);have:=A.cel;rw[getElem?_set_self (by rcases Nat.lt_or_ge k cs.length with h | h;exact h;rw[getElem?_eq_none h] at this;cases this)]
end Go.Proofs.YtndgjggokjickaaGreatDoor.R
