/- Parts of the proof. -/
import Derived.Test.YtndgjggokjickaaGreatDoorXX4
namespace Go.Proofs.YtndgjggokjickaaGreatDoor.R
open List
variable{p:Prop}
set_option maxHeartbeats 90000000
set_option maxRecDepth 100000
set_option linter.unusedSimpArgs false
set_option linter.unusedVariables false
variable{σ:cj}
theorem UL{s:List UInt8} (h:σ.head s=true):∃t r,σ=.good (t::r)/\iQ s t=true:=by
 match σ with
 | .bad n=>simp[cj.head,cj.words,dH] at h
 | .good l=>obtain⟨t,r,e,ht⟩:=Ld (s:=s) (l:=l) h;exact⟨t,r,by rw[e],ht⟩
theorem jR{s:List UInt8} (h:σ.head s=true):dn (may s) σ=.good σ.words.tail:=by rw[Le,h];rfl
theorem iZ{s:List UInt8} (h:σ.head s=false):dn (may s) σ=σ:=by rw[Le,h];rfl
theorem rC{s:List UInt8} (h:σ.head s=true):dn (must s) σ=.good σ.words.tail:=by rw[FH,h];rfl
theorem zN{s:List UInt8} (h:σ.head s=false):dn (must s) σ=.bad σ.left:=by rw[FH,h];rfl
def wj:List (List UInt8)->Ps Unit
 | []=>pure ()
 | s::ks=>do must s;wj ks
theorem uo (s:List UInt8)(ks:List (List UInt8))(σ:cj):dn (wj (s::ks)) σ=dn (wj ks) (dn (must s) σ):=Uz (x:=()) (OX _ _)
theorem rD (σ:cj):dn (wj []) σ=σ:=UC _ _
theorem BR (s:List UInt8)(σ:cj):dn (wj [s]) σ=dn (must s) σ:=by rw[uo,rD]
theorem sK (t:Wd)(r:dG):dn vV (.good (t::r))=if t.k=1/\tz t.s=false then .good r else .bad (r.length+1):=by
 simp only[dn,vV];by_cases h:t.k=1/\tz t.s=false
 ·simp only[h,and_self,if_true]
 ·simp only[h,if_false];rfl
theorem Pg (t:Wd)(r:dG):km vV (.good (t::r)) ⟨t.s.toArray⟩:=by
 simp only[km,vV];by_cases h:t.k=1/\tz t.s=false
 ·simp only[h,and_self,if_true]
 ·simp only[h,if_false]
theorem Lp (t:Wd)(r:dG):dn Iw (.good (t::r))=if t.k=2 then .good r else .bad (r.length+1):=by
 simp only[dn,Iw];by_cases h:t.k=2
 ·simp only[h,if_true]
 ·simp only[h,if_false];rfl
theorem UM (t:Wd)(r:dG):km Iw (.good (t::r)) t.n:=by
 simp only[km,Iw];by_cases h:t.k=2
 ·simp only[h,if_true]
 ·simp only[h,if_false]
variable{α:Type}{n:Nat}
theorem pn{p:Ps α}  (h:dn p σ=.bad n)(x:α):km p σ x:=by
 match σ with
 | .bad m=>trivial
 | .good l=>
   simp only[dn,km] at h ⊢
   cases e:p l with
   | error m=>trivial
   | ok y=>obtain⟨y,r⟩:=y;rw[e] at h;cases h
section
variable {s:List UInt8} {op:Int} {same below:Ps Tr} {σ:cj} {x:Tr}
end
open Go.ChangeShapes Go.WideShapes Go.ChangeAt Go.RowKit
def dr.ptr (ρ:dr):Value:=aw ρ.g
variable{ρ:dr}{w:World}{big:Bool}
theorem dr.at.facts(h:ρ.at w σ big):
  w.cell? ⟨ρ.g,0,none⟩=some (aH ρ.gl ρ.n ρ.c)/\w.cell? ⟨ρ.g,1,none⟩=some (af ((ρ.n:Int) - σ.left))/\w.cell? ⟨ρ.g,2,none⟩=some (af (ρ.bad σ))/\w.cell? ⟨ρ.g,3,none⟩=some (.bool big)/\
  w.frozen? ⟨ρ.g,1,none⟩=false/\w.frozen? ⟨ρ.g,2,none⟩=false/\w.frozen? ⟨ρ.g,3,none⟩=false:=
 ⟨h.blk.cell 0,h.blk.cell 1,h.blk.cell 2,h.blk.cell 3,h.blk.frozen 1,h.blk.frozen 2,h.blk.frozen 3⟩
theorem dr.at.place(h:ρ.at w σ big):((ρ.n:Int) - σ.left)=((ρ.n - σ.left:Nat):Int):=by have:=h.left;omega
theorem dr.at.Sr(h:ρ.at w σ big):decide (ρ.bad σ < 0)=σ.gT:=by
 have hl:=h.left
 match σ,hl with
 | .bad m,hl=>have e:ρ.bad (.bad m)=(ρ.n:Int) - m:=rfl;have e2:(cj.bad m).left=m:=rfl;rw[e2] at hl;rw[e];simp only[cj.gT,decide_eq_false_iff_not];omega
 | .good l,_=>rfl
theorem ZL{s:ByteArray} {t:Wd}:iQ s.data.toList t=((t.k==1 || t.k==4)&&(t.s==s.toList)):=by unfold iQ;rw[ByteArray.toList_eq]
def qf:Obj:=.cells #[ag 0,au,af 0,af 0] 172
def dC (t:rp):Array Value:= #[ag t.w.k,.string ⟨t.w.s.toArray⟩,af t.w.n,af t.p]
structure abX (ρ:dr) (w:World) (t:rp) (pl:Nat) (bd:Int):Prop where
 c0:w.cell? ⟨ρ.g,0,none⟩=some (aH ρ.gl ρ.n ρ.c)
 c1:w.cell? ⟨ρ.g,1,none⟩=some (af pl)
 c2:w.cell? ⟨ρ.g,2,none⟩=some (af bd)
 d0:w.cell? ⟨ρ.gl,pl*4,none⟩=some (ag t.w.k)
 d1:w.cell? ⟨ρ.gl,pl*4+1,none⟩=some (.string ⟨t.w.s.toArray⟩)
 d2:w.cell? ⟨ρ.gl,pl*4+2,none⟩=some (af t.w.n)
 d3:w.cell? ⟨ρ.gl,pl*4+3,none⟩=some (af t.p)
variable{w':World}{pl:Nat}{bd:Int}
theorem abX.later{t:rp}  (h:abX ρ w t pl bd)(hb:aj w w'):abX ρ w' t pl bd:=by obtain⟨h0,h1,h2,h3,h4,h5,h6⟩:=h;exact⟨(hb.cell (jO h0)).trans h0,(hb.cell (jO h1)).trans h1,(hb.cell (jO h2)).trans h2,(hb.cell (jO h3)).trans h3,(hb.cell (jO h4)).trans h4,(hb.cell (jO h5)).trans h5,(hb.cell (jO h6)).trans h6⟩
theorem dr.at.wk(h:ρ.at w σ big):∃(t:rp) (pl:Nat) (bd:Int),pl=ρ.n - σ.left/\pl < ρ.n/\ρ.n<=5000/\bd=ρ.bad σ/\decide (bd < 0)=σ.gT/\(∀l,σ=.good l->∃r,l=t.w::r)/\0<=t.w.n/\t.w.n<=9223372036854775807/\abX ρ w t pl bd:=by obtain⟨t,ht,hg⟩:=h.next;obtain⟨d0,d1,d2,d3⟩:=h.cell _ t ht;obtain⟨c0,c1,c2,c3,f1,f2,f3⟩:=h.facts;have hl:=h.left;rw[h.place] at c1;have hn:=h.ZK t (mem_of_getElem? ht);exact⟨t,_,_,rfl,by omega,h.small,rfl,h.Sr,hg,hn.1,hn.2,c0,c1,c2,d0,d1,d2,d3⟩
theorem zg2.KbO(h:p:=by
 go_enter Tryz.func133,Tryz.ntmps133;go_wp2_with fail;go_region;clear c0 c1 c2 d0 d1 d2 d3 y0 y1 y2 z0 z1 z2 z3 x0 x1 v0 v1 v2 v3;obtain⟨u0,u1,u2,u3,_⟩:=bP HT;unfold dC at x2 u0 u1 u2 u3 hb;generalize (w.alloc _).drew=W at*;go_wp2_with fail
 all_goals
  go_ret;refine⟨mf ?_,hb⟩;rw[Xl.ae];generalize (t.w.s==s.toList)=X;cases X <;> rw[Bool.eq_iff_iff] <;> simp <;> omega):p:=h
theorem lL (ρ:dr)(w:World)(σ:cj)(big:Bool)(h:ρ.at w σ big)(s:ByteArray):
  ar 133 #[ρ.ptr,.string s] w λ e w'=>e=.returned (.bool (σ.head s.data.toList))/\aj w w':=by
 obtain⟨t,pl,bd,hpl,hlt,hsm,uq,cg,hg,JL,uX,hp⟩:=h.wk;have DM:=hp.later (ah w qf);have Lr:=hp.later ((ah w (.cells (dC t) 172)).drew)
 have hHD:σ.head s.data.toList=(decide (bd < 0)&&((t.w.k==1 || t.w.k==4)&&(t.w.s==s.toList))):=by
  rw[cg]
  match σ with
  | .bad m=>rfl
  | .good l=>obtain⟨r,rfl⟩:=hg l rfl;rw[<- ZL];rfl
 have Xl:=aa hHD;have hb:=(ah w (.cells (dC t) 172)).drew;have HT:=(aB.new w 172 (dC t)).drew;clear hHD hpl hg cg uq h;unfold dr.ptr;generalize σ.head s.data.toList=R at*;open zg2 in exact ZeI
def BS (ρ:dr)(W:World)(yT:cj)(big:Bool)(e:Ending)(w':World):Prop:=e=.returned (.tuple #[])/\eE ρ W w' yT big
theorem po (ρ:dr)(w:World)(σ:cj)(big:Bool)(h:ρ.at w σ big):
  ar 88 #[ρ.ptr] w (BS ρ w (.bad σ.left) big):=by
 obtain⟨c0,c1,c2,c3,f1,f2,f3⟩:=h.facts;have Z8:=h.left;have cg:=h.Sr;have TP:cj.of ρ.ws (.bad σ.left):=⟨(cj.OY h.of).1,(cj.OY h.of).2⟩;unfold dr.ptr;by_cases hg:ρ.bad σ < 0
 ·have hB:=aB.aT h.blk 2 (af ((ρ.n:Int) - σ.left));go_enter Tryz.func88,Tryz.ntmps88;go_wp2_with fail;go_end0;exact⟨rfl,h.set hB (aC (aR (Below.refl _ _)) 2 _) TP,aC (aR (Below.refl _ _)) 2 _⟩
 ·have uq:σ=.bad σ.left:=by
   match σ with
   | .bad m=>rfl
   | .good l=>exact absurd (by show(-1:Int)< 0;decide) hg
  have HBD:=aa uq;clear uq;go_enter Tryz.func88,Tryz.ntmps88;go_wp2_with fail;go_end0;rw[<- HBD.ae];exact⟨rfl,eE.refl h⟩
variable{l:dG}
theorem dr.at.step{t:Wd} (h:ρ.at w (.good (t::l)) big)(ht:t.k≠0):
  eE ρ w (w.setCell ⟨ρ.g,1,none⟩ (af ((ρ.n:Int) - l.length))) (.good l) big:=by have hB:=aB.aT h.blk 1 (af ((ρ.n:Int) - l.length));refine⟨h.set hB (aC (aR (Below.refl _ _)) 1 _) ⟨?_,h.of.2.tail ht⟩,aC (aR (Below.refl _ _)) 1 _⟩;exact(suffix_cons _ _).trans h.of.1
theorem rE (ρ:dr)(w:World)(σ:cj)(big:Bool)(h:ρ.at w σ big)(s:ByteArray):
  ar 87 #[ρ.ptr,.string s] w λ e w'=>e=.returned (.bool (σ.head s.data.toList))/\eE ρ w w' (dn (may s.data.toList) σ) big:=by
 have hw:=lL ρ w σ big h s;have Ph:ρ.ptr=aw ρ.g:=rfl;cases hh:σ.head s.data.toList
 ·rw[hh] at hw;rw[iZ hh];go_enter Tryz.func87,Tryz.ntmps87;go_wp2_with (go_at_call 133;refine hw.mono ?_;rintro e w1 ⟨rfl,b1⟩);go_ret;exact⟨rfl,eE.cW h b1⟩
 ·rw[hh] at hw;obtain⟨t,r,rfl,ht⟩:=UL hh;rw[jR hh];go_enter Tryz.func87,Tryz.ntmps87;have HH:=aa h;have HK:=aa (alL ht);have hsm:=h.small;clear ht hh h;go_wp2_with (go_at_call 133;refine hw.mono ?_;rintro e w1 ⟨rfl,b1⟩;obtain⟨c0,c1,c2,c3,f1,f2,f3⟩:=(HH.ae.later b1).facts;have Z8:=(HH.ae.later b1).left;have e1:(ρ.n:Int) - (cj.good (t::r)).left+1=(ρ.n:Int) - r.length:=by(simp[cj.left];omega));go_ret;have hd:=dr.at.step (HH.ae.later b1) HK.ae;exact⟨rfl,(eE.cW HH.ae b1).trans hd⟩
variable{k:Nat}
theorem UN(h:pl=n - k)(hk:k<=n):(n:Int) - k=pl:=by omega
theorem zfY.Kbq(h:p:=by
 by_cases hk:t.w.k=2
 ·have hd:=dr.at.step HF.ae (show t.w.k≠0 by omega);have s2:(W.setCell ⟨ρ.g,1,none⟩ (af ((ρ.n:Int) - r.length))).cell? ⟨w.heap.size,2,none⟩=some (af t.w.n):=(HB.ae.far (p:=⟨ρ.g,1,none⟩) Tac _).cell 2;go_wp2_with fail;go_ret;refine⟨t.w.n,JL,uX,rfl,?_,UM _ _⟩;rw[Lp,if_pos hk];exact HD.ae.trans hd
 ·have g1:((t.w.k:Int) != 2)=true:=by simp;omega
  go_wp2_with (go_at_call 88;refine hwr.mono ?_;rintro e w1 ⟨rfl,d1⟩);go_ret;have e3:dn Iw (.good (t.w::r))=.bad (r.length+1):=by rw[Lp,if_neg hk]
  refine⟨0,by omega,by omega,rfl,?_,pn e3 _⟩;rw[e3];exact HD.ae.trans d1):p:=h
theorem zhw.Kb0(h:p:=by refine⟨0,by omega,by omega,rfl,?_,FE _ _ _⟩;exact HD.ae.trans d1):p:=h
theorem zgs.KbB(h:p:=by
 by_cases Eh:bd < 0
 ·open zfY in exact ZdU
 ·open zhw in exact Zfv):p:=h
theorem zdy.KaE(h:p:=by go_enter Tryz.func181,Tryz.ntmps181;open zgs in exact Zeq):p:=h
theorem UO (ρ:dr)(w:World)(σ:cj)(big:Bool)(h:ρ.at w σ big):
  ar 181 #[ρ.ptr] w λ e w'=>∃x:Int,0<=x/\x<=9223372036854775807/\e=.returned (af x)/\eE ρ w w' (dn Iw σ) big/\km Iw σ x:=by
 open zdy in exact Zbq
theorem zfZ.Kbq(h:p:=by
 by_cases hk:t.w.k=1
 ·cases hr:tz t.w.s
  ·have HC:=aa (show t.w.k=1/\tz t.w.s=false from⟨hk,hr⟩);have hd0:=λ(W2:World) (hb2:aj W W2)=>dr.at.step (HF.ae.later hb2) (show t.w.k≠0 by omega)
   have Y8:=aa hd0;have hs0:=λ(W2:World) (hb2:aj W W2)=>(HB.ae.later hb2).cell 1
   have HS0:=aa hs0;have HX:=aa (λ(W2:World) (hb2:aj W W2)=>(HB.ae.later hb2).far (p:=⟨ρ.g,1,none⟩) Tac (af ((ρ.n:Int) - r.length)));rw[hr] at hres;have jH:=aa hres;clear hd0 hs0 hr hres;go_wp2_with (go_at_call 183;go_loud (refine jH.ae.mono ?_;rintro e w1 ⟨rfl,b1⟩;obtain⟨q0,q1,q2,q3,p1,p2,p3⟩:=(HF.ae.later b1).facts;have s1:=(HX.ae w1 b1).cell 1;have e2:(ρ.n:Int) - (cj.good (t.w::r)).left=pl:=(UN Pj.ae Z8.2);rw[e2] at q1));go_ret;refine⟨⟨t.w.s.toArray⟩,rfl,?_,Pg _ _⟩;rw[sK,if_pos HC.ae];exact(HD.ae.later b1).trans (Y8.ae w1 b1)
  ·have e3:dn vV (.good (t.w::r))=.bad (r.length+1):=by rw[sK,if_neg (by rw[hr];simp)]
   have HE3:=aa e3;rw[hr] at hres;have jH:=aa hres;clear hr e3 hres;go_wp2_with (first
    |(go_at_call 183;refine jH.ae.mono ?_;rintro e w1 ⟨rfl,b1⟩)
    |(go_at_call 88;refine(po ρ _ _ big (HF.ae.later b1)).mono ?_;rintro e w2 ⟨rfl,d1⟩))
   go_ret;refine⟨ByteArray.empty,rfl,?_,pn HE3.ae _⟩;rw[HE3.ae];exact(HD.ae.later b1).trans d1
 ·have e3:dn vV (.good (t.w::r))=.bad (r.length+1):=by rw[sK,if_neg (by simp[hk])]
  have HE3:=aa e3;have g1:((t.w.k:Int) != 1)=true:=by simp;omega
  clear e3;go_wp2_with (go_at_call 88;refine hwr.mono ?_;rintro e w1 ⟨rfl,d1⟩);go_ret;refine⟨ByteArray.empty,rfl,?_,pn HE3.ae _⟩;rw[HE3.ae];exact HD.ae.trans d1):p:=h
theorem zhx.Kb0(h:p:=by exact⟨ByteArray.empty,rfl,HD.ae.trans d1,FE _ _ _⟩):p:=h
theorem zgt.KbB(h:p:=by
 have hres:=Eg ⟨t.w.s.toArray⟩ W;have Av:(⟨t.w.s.toArray⟩:ByteArray).data.toList=t.w.s:=by simp
 rw[Av] at hres;by_cases Eh:bd < 0
 ·open zfZ in exact ZdU
 ·open zhx in exact Zfv):p:=h
theorem zdz.KaE(h:p:=by go_enter Tryz.func137,Tryz.ntmps137;open zgt in exact Zeq):p:=h
theorem abY (ρ:dr)(w:World)(σ:cj)(big:Bool)(h:ρ.at w σ big):
  ar 137 #[ρ.ptr] w λ e w'=>∃x:ByteArray,e=.returned (.string x)/\eE ρ w w' (dn vV σ) big/\km vV σ x:=by
 open zdz in exact Zbq
def bL (ks:List (List UInt8)):Array Value:=(ks.map strOf).toArray
variable{ks:List (List UInt8)}
theorem sL{b:Nat} (h:aB w b 9 (bL ks)) {i:Nat} {s:List UInt8}(hi:ks[i]?=some s):w.cell? ⟨b,i,none⟩=some (.string ⟨s.toArray⟩):=by rw[h.cell i];simp[bL,hi,strOf]
theorem ZM{l:List α} {i:Nat} {x:α}(h:l[i]?=some x):l.drop i=x::l.drop (i+1):=by obtain⟨hlt,he⟩:=List.getElem?_eq_some_iff.1 h;rw[drop_eq_getElem_cons hlt,he]
theorem BU (ks:List (List UInt8))(n:Nat):dn (wj ks) (.bad n)=.bad n:=rfl
theorem UQ (ρ:dr)(w:World)(σ:cj)(big:Bool)(h:ρ.at w σ big)(ks:List (List UInt8))(b n:Nat)(hn:ks.length=n)(hb:aB w b 9 (bL ks))(hbg:ρ.g≠b)(hsm:n<=10):
  ar 138 #[ρ.ptr,aH b n n] w (BS ρ w (dn (wj ks) σ) big):=by
 have HH:=aa h;have HB:=aa hb;clear h hb;go_enter Tryz.func138,Tryz.ntmps138;go_wp2_with fail;go_loopw [4] (λ u wr=>∃(i:Nat) (yT:cj),i<=n/\u=af i/\eE ρ w wr yT big/\dn (wj ks) σ=dn (wj (ks.drop i)) yT) (λ u _=>n - (intOf u).toNat);case atStart=>exact⟨0,σ,Nat.zero_le _,rfl,eE.refl HH.ae,rfl⟩
 case round=>
  obtain⟨i,yT,hi,rfl,hD,hst⟩:=hrel;have HD:=aa hD;have HS:=aa hst;clear hD hst;by_cases hlt:i < n
  ·obtain⟨s,hs⟩:∃s,ks[i]?=some s:=⟨_,getElem?_eq_getElem WC⟩;have hc:=sL (HD.ae.blk HB.ae (λ e=>hbg e.symm)) hs;have uY:=aa (ZM hs);clear hs;have hm:=rE ρ wr yT big HD.ae.at_ ⟨s.toArray⟩;cases hh:yT.head s
   ·have Xl:=aa hh;rw[show yT.head (⟨s.toArray⟩:ByteArray).data.toList=false from hh,iZ (s:=(⟨s.toArray⟩:ByteArray).data.toList) hh] at hm;clear hh;go_wp2_with (first
     |(go_at_call 87;refine hm.mono ?_;rintro e w1 ⟨rfl,d1⟩)
     |(go_at_call 88;refine(po ρ _ _ big d1.at_).mono ?_;rintro e w2 ⟨rfl,d2⟩))
    go_end0;refine⟨rfl,?_⟩;rw[HS.ae,uY.ae,uo,zN Xl.ae,BU];exact HD.ae.trans (d1.trans d2)
   ·have Xl:=aa hh;rw[show yT.head (⟨s.toArray⟩:ByteArray).data.toList=true from hh,jR (s:=(⟨s.toArray⟩:ByteArray).data.toList) hh] at hm;clear hh;go_wp2_with (first
     |(go_at_call 87;refine hm.mono ?_;rintro e w1 ⟨rfl,d1⟩))
    go_roundw;case rel=>refine⟨i+1,_,by omega,by go_num,HD.ae.trans d1,?_⟩;rw[HS.ae,uY.ae,uo,rC Xl.ae]
    case measure=>exact Za1
  ·obtain rfl:i=n:=by omega
   have hd:ks.drop i=[]:=drop_eq_nil_of_le WC;rw[hd] at HS;go_wp2_with fail;go_end0;refine⟨rfl,?_⟩;rw[HS.ae,rD];exact HD.ae
theorem FL (ρ:dr)(w:World)(σ:cj)(big:Bool)(h:ρ.at w σ big)(n:Nat)(hn:n<=1000000):
  ar 140 #[ρ.ptr,af n] w λ e w'=>e=.returned (.bool (σ.head dK))/\eE ρ w w' (dn (may dK) σ) (big || decide (64 < n)):=by
 have Ph:ρ.ptr=aw ρ.g:=rfl;obtain⟨c0,c1,c2,c3,f1,f2,f3⟩:=h.facts;by_cases h64:64 < n
 ·have hB:=aB.aT h.blk 3 (.bool true);have hg:w.grownBy (w.setCell ⟨ρ.g,3,none⟩ (.bool true)) (some ρ.g):=aC (aR (Below.refl _ _)) 3 _;have hat:ρ.at (w.setCell ⟨ρ.g,3,none⟩ (.bool true)) σ true:=h.set hB hg h.of;have hm:=rE ρ _ σ true hat ⟨#[44]⟩;have e1:(big || decide (64 < n))=true:=by simp[h64]
  have hn:(64:Int)< n:=by omega
  rw[e1];clear h hat hB e1;unfold dr.ptr at*;go_enter Tryz.func140,Tryz.ntmps140;go_wp2_with (first
   |(go_at_call 87;refine hm.mono ?_;rintro e w1 ⟨rfl,d1⟩))
  go_ret;exact⟨rfl,⟨d1.at_,aY hg d1.grown⟩⟩
 ·have hm:=rE ρ _ σ big h ⟨#[44]⟩;have e1:(big || decide (64 < n))=big:=by simp[h64]
  have hn:¬(64:Int)< n:=by omega
  rw[e1];clear h e1;unfold dr.ptr at*;go_enter Tryz.func140,Tryz.ntmps140;go_wp2_with (first
   |(go_at_call 87;refine hm.mono ?_;rintro e w1 ⟨rfl,d1⟩))
  go_ret;exact⟨rfl,d1⟩
def kQ (lv:Nat)(t:Wd):Int:=(Zl (opsL lv) [t]).getD 0
variable{lv:Nat}
theorem ahg{t:Wd}(h1:t.k≠1)(h4:t.k≠4):kQ lv t=0:=by
 unfold kQ
 have:∀ks,Zl ks [t]=none:=by
  intro ks
  induction ks with
  | nil=>rfl
  | cons a ks ih=>obtain⟨s,o⟩:=a;simp[Zl,dH,iQ,h1,h4,ih]
 rw[this];rfl
theorem Ss{t:Wd}(h:t.k=1\/t.k=4):kQ lv t=((opsL lv).lookup t.s).getD 0:=by
 unfold kQ;congr 1;have hk:(t.k==1 || t.k==4)=true:=by rcases h with h | h <;> simp[h]
 generalize opsL lv=ks
 induction ks with
 | nil=>rfl
 | cons a ks ih=>obtain⟨s,o⟩:=a;simp only[Zl,dH,iQ,hk,Bool.true_and,List.lookup];rw[ih];cases e:(t.s==s)<;> simp
def sM (lv:Nat)(t:Wd)(w:World)(e:Ending)(w':World):Prop:=e=.returned (ag (kQ lv t))/\aj w w'
theorem mY (lv:Nat)(hlv:lv=0\/lv=1\/lv=4\/lv=5)(t:rp)(w:World)(hk:t.w.k=1\/t.w.k=4):
  ar 200 #[af lv,.agg (dC t)] w (sM lv t.w w):=by
 have HR:=aa (Ss (lv:=lv) hk);have hb:=ah w (.cells (dC t) 172);obtain⟨u0,u1,u2,u3,_⟩:=bP (aB.new w 172 (dC t));unfold sM;unfold dC at*;rcases hk with hk | hk
 ·have n1:((t.w.k:Int) != 1)=false:=by simp;omega
  exact ZcP
 ·have n1:((t.w.k:Int) != 1)=true:=by simp;omega
  have n2:((t.w.k:Int) != 4)=false:=by simp;omega
  exact ZcP
def lr:List (List UInt8):=[[61],[60,62],[60],[60,61],[62],[62,61]]
theorem ZN{x:List UInt8} {i:Nat}(hi:i < 6):∃y,lr[i]?=some y/\((opsL 3).drop i).lookup x=if x==y then some ((10:Int)+i)else((opsL 3).drop (i+1)).lookup x:=by
 rcases(by omega:i=0\/i=1\/i=2\/i=3\/i=4\/i=5)with rfl | rfl | rfl | rfl | rfl | rfl <;> refine⟨_,rfl,?_⟩<;> simp[opsL,List.lookup,alG,alH,alI,alJ,agQ,alK] <;> split <;> simp_all
theorem Pk (t:rp)(w:World)(hk:t.w.k=1\/t.w.k=4):
  ar 200 #[af (3:Nat),.agg (dC t)] w (sM 3 t.w w):=by
 have HR:=aa (Ss (lv:=3) hk);obtain⟨u0,u1,u2,u3,_⟩:=bP (aB.new w 172 (dC t))
 have hn:(((t.w.k:Int) != 1)=false)\/((((t.w.k:Int) != 1)=true)/\(((t.w.k:Int) != 4)=false)):=by
  rcases hk with hk | hk
  ·exact .inl Tac
  ·exact .inr ⟨by simp;omega,by simp;omega⟩
 clear hk;have b1:=ai.then (ah w (.cells (dC t) 172)) (ah _ (.cells (bL lr) 9));have B1:=(aB.new w 172 (dC t)).alloc (.cells (bL lr) 9);have B2:=aB.new (w.alloc (.cells (dC t) 172)) 9 (bL lr);rw[World.size_alloc] at B2;have eL:=aa B1;have fE:=aa B2;have hb:=aa b1;clear B1 B2 b1;unfold sM;have alY:bL lr= #[.string ⟨#[61]⟩,.string ⟨#[60,62]⟩,.string ⟨#[60]⟩,.string ⟨#[60,61]⟩,.string ⟨#[62]⟩,.string ⟨#[62,61]⟩]:=rfl;rw[alY] at eL fE hb;unfold dC at*;generalize kQ 3 t.w=R at*
 rcases hn with n1 |⟨n1,n2⟩;all_goals
  go_enter Tryz.func200,Tryz.ntmps200;go_wp2_with fail;clear u0 u1 u2 u3;generalize (w.alloc _).alloc _=W at*;go_loopw [6] (λ u wr=>∃k:Nat,k<=6/\u=af k/\aj W wr/\(opsL 3).lookup t.w.s=((opsL 3).drop k).lookup t.w.s) (λ u _=>6 - (intOf u).toNat);case atStart=>exact⟨0,Nat.zero_le _,rfl,Below.refl _ _,rfl⟩
  case round=>
   obtain⟨k,hi,rfl,hP,hlk⟩:=hrel;have DN:=aa hlk;have jI:=aa hP;clear hlk hP;by_cases hlt:k < 6
   ·obtain⟨y,hy,hstep⟩:=ZN (x:=t.w.s) hlt;have HST:=aa hstep;have c2:=(fE.ae.later jI.ae).cell k;rw[<- alY,show(bL lr)[k]?=some (.string ⟨y.toArray⟩) by simp[bL,hy,strOf]] at c2;have c1:=(eL.ae.later jI.ae).cell 1;have tu:k < 6:=hlt;clear hy hstep;cases he:(t.w.s==y)
    ·have HE:=aa he;have t1:(y==t.w.s)=false:=by rw[beq_eq_false_iff_ne] at he ⊢;exact λ e=>he e.symm
     clear he;go_wp2_with fail;go_region;go_wp2_with fail;go_roundw;case rel=>refine⟨k+1,by omega,by go_num,jI.ae.drew,?_⟩;rw[DN.ae,HST.ae,HE.ae];rfl
     case measure=>simp[intOf];omega
    ·have HE:=aa he;have t1:(y==t.w.s)=true:=by rw[beq_iff_eq] at he ⊢;exact he.symm
     clear he;go_wp2_with fail;go_region;go_wp2_with fail;go_ret;refine⟨?_,ai.then hb.ae jI.ae.drew⟩;rw[HR.ae,DN.ae,HST.ae,HE.ae];refine mV ?_;rcases(by omega:k=0\/k=1\/k=2\/k=3\/k=4\/k=5)with rfl | rfl | rfl | rfl | rfl | rfl <;> rfl
   ·obtain rfl:k=6:=by omega
    go_wp2_with fail;go_ret;rw[HR.ae,DN.ae];exact⟨rfl,ai.then hb.ae jI.ae⟩
theorem Pl (lv:Nat)(hlv:lv=0\/lv=1\/lv=3\/lv=4\/lv=5)(t:rp)(w:World):
  ar 200 #[af lv,.agg (dC t)] w (sM lv t.w w):=by
 by_cases hk:t.w.k=1\/t.w.k=4
 ·rcases hlv with rfl | rfl | rfl | rfl | rfl
  ·exact mY 0 Tad t w hk
  ·exact mY 1 Tad t w hk
  ·exact Pk t w hk
  ·exact mY 4 Tad t w hk
  ·exact mY 5 Tad t w hk
 ·have hb:=ah w (.cells (dC t) 172);obtain⟨u0,u1,u2,u3,_⟩:=bP (aB.new w 172 (dC t));unfold sM;unfold dC at*;have HR:=aa (ahg (lv:=lv) (λ e=>hk (.inl e)) (λ e=>hk (.inr e)));generalize kQ lv t.w=R at*;have n1:((t.w.k:Int) != 1)=true:=by simp;omega
  have n2:((t.w.k:Int) != 4)=true:=by simp;omega
  go_enter Tryz.func200,Tryz.ntmps200;go_wp2_with fail;go_ret;rw[HR.ae];exact⟨rfl,hb⟩
def qA:Obj:=.cells #[ag 0,ag 0,af 0,au,au,af 0,az] 46
variable{q:Nat}{y:Ex}
theorem dp(h:aB w q 46 (bH y).toArray):
  w.cell? ⟨q,0,none⟩=some (ag y.op)/\w.cell? ⟨q,1,none⟩=some (ag y.v.k)/\w.cell? ⟨q,2,none⟩=some (af y.v.n)/\w.cell? ⟨q,3,none⟩=some (.string y.v.s)/\w.cell? ⟨q,4,none⟩=some (.string y.name)/\w.cell? ⟨q,5,none⟩=some (af y.width)/\w.cell? ⟨q,6,none⟩=some (.slice y.A y.n y.c):=
 ⟨h.cell 0,h.cell 1,h.cell 2,h.cell 3,h.cell 4,h.cell 5,h.cell 6⟩
variable{T:TypeId}{c d e f g:Value}
theorem bS{a b:Value}(h:aB w q T #[a,b,c,d,e,f,g]):
  w.cell? ⟨q,0,none⟩=some a/\w.cell? ⟨q,1,none⟩=some b/\w.cell? ⟨q,2,none⟩=some c/\w.cell? ⟨q,3,none⟩=some d/\w.cell? ⟨q,4,none⟩=some e/\w.cell? ⟨q,5,none⟩=some f/\w.cell? ⟨q,6,none⟩=some g:=
 ⟨h.cell 0,h.cell 1,h.cell 2,h.cell 3,h.cell 4,h.cell 5,h.cell 6⟩
variable{cs:Array Value}
theorem ek(h:aB w q 46 cs):
  w.frozen? ⟨q,0,none⟩=false/\w.frozen? ⟨q,1,none⟩=false/\w.frozen? ⟨q,2,none⟩=false/\w.frozen? ⟨q,3,none⟩=false/\w.frozen? ⟨q,4,none⟩=false/\w.frozen? ⟨q,5,none⟩=false/\w.frozen? ⟨q,6,none⟩=false:=
 ⟨h.frozen 0,h.frozen 1,h.frozen 2,h.frozen 3,h.frozen 4,h.frozen 5,h.frozen 6⟩
def dW (w:World)(q:Nat)(y:Ex):World:=((((((w.setCell ⟨q,0,none⟩ (ag y.op)).setCell ⟨q,1,none⟩ (ag y.v.k)).setCell ⟨q,2,none⟩ (af y.v.n)).setCell ⟨q,3,none⟩ (.string y.v.s)).setCell ⟨q,4,none⟩ (.string y.name)).setCell ⟨q,5,none⟩ (af y.width)).setCell ⟨q,6,none⟩ (.slice y.A y.n y.c)
theorem eo{a b:Value}(h:aB w q T #[a,b,c,d,e,f,g])(y:Ex):aB (dW w q y) q T (bH y).toArray:=by have:=((((((h.aT 0 (ag y.op)).aT 1 (ag y.v.k)).aT 2 (af y.v.n)).aT 3 (.string y.v.s)).aT 4 (.string y.name)).aT 5 (af y.width)).aT 6 (.slice y.A y.n y.c);exact ZdK
theorem UR{p:Nat}  (h:aB w p T cs)(hp:p≠q)(y:Ex):aB (dW w q y) p T cs:=
 ((((((h.far (p:=⟨q,0,none⟩) hp _).far (p:=⟨q,1,none⟩) hp _).far (p:=⟨q,2,none⟩) hp _).far (p:=⟨q,3,none⟩) hp _).far (p:=⟨q,4,none⟩) hp _).far (p:=⟨q,5,none⟩) hp _).far (p:=⟨q,6,none⟩) hp _
variable{W:World}
theorem eE.dW(h:eE ρ W w σ big)(hW:ρ.g < W.heap.size)(hq:W.heap.size<=q)(y:Ex):eE ρ W (dW w q y) σ big:=
 ((((((h.far hW hq 0 _).far hW hq 1 _).far hW hq 2 _).far hW hq 3 _).far hW hq 4 _).far hW hq 5 _).far hW hq 6 _
theorem aeN{S:World->Nat->Prop}(hs:∀(w:World) (i:Nat) (u:Value),∀b,S w b->(∀o,(w.setCell ⟨q,i,none⟩ u).cell? ⟨b,o,none⟩=w.cell? ⟨b,o,none⟩)/\S (w.setCell ⟨q,i,none⟩ u) b)(y:Ex):∀b,S w b->(∀o,(Go.Proofs.YtndgjggokjickaaGreatDoor.R.dW w q y).cell? ⟨b,o,none⟩=w.cell? ⟨b,o,none⟩)/\S (Go.Proofs.YtndgjggokjickaaGreatDoor.R.dW w q y) b:=by intro b hb;obtain⟨c0,s0⟩:=hs w 0 (ag y.op) b hb;obtain⟨c1,s1⟩:=hs _ 1 (ag y.v.k) b s0;obtain⟨c2,s2⟩:=hs _ 2 (af y.v.n) b s1;obtain⟨c3,s3⟩:=hs _ 3 (.string y.v.s) b s2;obtain⟨c4,s4⟩:=hs _ 4 (.string y.name) b s3;obtain⟨c5,s5⟩:=hs _ 5 (af y.width) b s4;obtain⟨c6,s6⟩:=hs _ 6 (.slice y.A y.n y.c) b s5;exact⟨λ o=>(c6 o).trans ((c5 o).trans ((c4 o).trans ((c3 o).trans ((c2 o).trans ((c1 o).trans (c0 o)))))),s6⟩
variable{B:Nat}{t:Tr}
theorem Tr.at_.dW(h:t.at_ w (jg B w) y)(hq:q < B)(z:Ex):t.at_ (dW w q z) (jg B (Go.Proofs.YtndgjggokjickaaGreatDoor.R.dW w q z)) y:=Tr.at_.keep (aeN (S:=λ w=>jg B w) (λ w i u=>sI hq i u) z) t y h
section
variable {lv:Nat} {σ yT:cj} {x y:Tr} {o:Int}
end
theorem BV (lv:Nat)(z:Int)(hz:z=lv)(hlv:lv=0\/lv=1\/lv=3\/lv=4\/lv=5)(t:rp)(w:World):
  ar 200 #[af z,.agg #[ag t.w.k,.string ⟨t.w.s.toArray⟩,af t.w.n,af t.p]] w λ e w'=>e=.returned (ag (kQ lv t.w))/\aj w w':=by subst hz;exact Pl lv hlv t w
def ur (y:Ex):Obj:=.cells (bH y).toArray 46
def zO (y z:Ex):Obj:=.cells (bH y++bH z).toArray 46
section
variable {σ yT:cj} {x y:Tr} {o:Int}
end
section
variable {t:Wd} {r:dG} {x:Tr}
structure Plain (t:Wd):Prop where
 i:t.k≠2
 s:t.k≠3
structure Lt (t:Wd):Prop where
 p:Plain t
 wt:iQ OM t=false
 wf:iQ Aq t=false
 wn:iQ Zh t=false
 wo:iQ eC t=false
end
section
variable {n:ByteArray} {σ:cj} {z:Tr} {op:Int}
end
theorem FM (v:Val)(w:World):ar 208 #[.agg #[ag v.k,af v.n,.string v.s]] w λ e w'=>e=.returned (.agg #[ag 1,ag v.k,af v.n,.string v.s,au,af 0,az])/\aj w w':=by go_enter Tryz.func208,Tryz.ntmps208;go_wp2_with fail;refine bodyPost_ret (v:=.agg #[ag 1,ag v.k,af v.n,.string v.s,au,af 0,az]) ?_ rfl ⟨rfl,ai.then (ah w _) (ah _ _)⟩;simp[results,Tryz.results208,go_sem]
theorem cq (ρ:dr)(w:World)(σ:cj)(big:Bool)(h:ρ.at w σ big)(s:ByteArray)(hh:σ.head s.data.toList=false):
  ar 87 #[ρ.ptr,.string s] w λ e w'=>e=.returned (.bool false)/\eE ρ w w' σ big:=by have:=rE ρ w σ big h s;rw[hh,iZ hh] at this;exact this
theorem nV (ρ:dr)(w:World)(σ:cj)(big:Bool)(h:ρ.at w σ big)(s:ByteArray)(hh:σ.head s.data.toList=true):
  ar 87 #[ρ.ptr,.string s] w λ e w'=>e=.returned (.bool true)/\eE ρ w w' (.good σ.words.tail) big:=by have:=rE ρ w σ big h s;rw[hh,jR hh] at this;exact this
section
variable {P:Program} {l zs:List Oper} {Q:Exit->Act->World->Prop} {u:Nat->Value} {ch:List Nat} {G:List Value->World->Prop} {a0:Act} {w0:World}
end
theorem _root_.Go.Proofs.YtndgjggokjickaaGreatDoor.ai.cell{a b:World}(h:ai a b) {p:Addr}(hp:p.block < a.heap.size):b.cell? p=a.cell? p:=Below.cell h hp
theorem pw{a b:World} {row:Option Nat}(h:a.grownBy b row) {p:Addr}(hp:p.block < a.heap.size)(hr:some p.block≠row):b.cell? p=a.cell? p:=by unfold World.cell?;rw[h.block p.block hp hr]
def BW (o0 o1 o2 o3 o4 o5 o6:Oper)(q d0 d1 d2 d3 d4 d5 d6:Tmp):Bool:=
 (tmpsOf o0== [q])&&(cT [o0,o1,o2,o3,o4,o5,o6] o0 q==none)&&(tmpsOf o1== [d0])&&(cT [o0,o1,o2,o3,o4,o5,o6] o1 d0==some 0)&&
 (tmpsOf o2== [0])&&(cT [o0,o1,o2,o3,o4,o5,o6] o2 0==none)&&(tmpsOf o3== [d2])&&(cT [o0,o1,o2,o3,o4,o5,o6] o3 d2==some 2)&&
 (tmpsOf o4== [d3])&&(cT [o0,o1,o2,o3,o4,o5,o6] o4 d3==some 3)&&(tmpsOf o5== [d1,d4])&&(cT [o0,o1,o2,o3,o4,o5,o6] o5 d1==some 1)&&(cT [o0,o1,o2,o3,o4,o5,o6] o5 d4==some 4)&&
 (tmpsOf o6== [q])&&(cT [o0,o1,o2,o3,o4,o5,o6] o6 q==none)&&
 (o0.dst==some d0)&&(o1.dst==some d1)&&(o2.dst==some d2)&&(o3.dst==some d3)&&(o4.dst==some d4)&&(o5.dst==some d5)&&(o6.dst==some d6)&&
 o0.guard.isNone && o1.guard.isNone && o2.guard.isNone && o3.guard.isNone && o4.guard.isNone && o5.guard.isNone && o6.guard.isNone
section
variable {P:Program} {β:Type} (f:β->List Value) (val:β->Value) (e:TypeId) (size base:Nat) (l:List β) (lv:Value) (Post:β->World->World->Prop) (w0:World)
def Su:List Value->World->Prop
 | [],w=>ai w0 w
 | [a],w=>∃y w1 gF,a=val y/\ai w0 w1/\Post y w1 gF/\ai gF w
 | [a,s],w=>∃y w1 gF g0,a=val y/\s=aH g0 1 1/\ai w0 w1/\Post y w1 gF/\ai gF w/\aB w g0 e (f y).toArray
 | [a,s,v],w=>∃y w1 gF w2,a=val y/\ai w0 w1/\Post y w1 gF/\ai gF w2/\aI f e size w2 base lv l/\w2.grownBy w lv.ownBlock/\aI f e size w base v (l++ [y])/\(lv=az->l=[]->aI f e size w w2.heap.size v [y])
 | _,_=>False
theorem Pm (vs:List Value)(w:World)(h:Su f val e size base l lv Post w0 vs w):Su f val e size base l lv Post w0 vs w.drew:=by
 match vs,h with
 | [],h=>exact ai.trans h (ai.drew _)
 | [a],⟨y,w1,gF,h1,h2,h3,h4⟩=>exact⟨y,w1,gF,h1,h2,h3,h4.trans (ai.drew _)⟩
 | [a,s],⟨y,w1,gF,g0,h1,h2,h3,h4,h5,h6⟩=>exact Zhv
 | [a,s,v],⟨y,w1,gF,w2,h1,h2,h3,h4,h5,h6,h7,h8⟩=>exact⟨y,w1,gF,w2,h1,h2,h3,h4,h5,⟨h6.os,h6.tape,h6.output,h6.size,h6.block⟩,h7.later (ai.drew _),λ a b=>(h8 a b).later (ai.drew _)⟩
 | _::_::_::_::_,h=>exact h.elim
variable {f val e size base l lv Post w0}
variable {Q:Exit->Act->World->Prop} {a0:Act} {id:Nat} {o0 o1 o2 o3 o4 o5 o6 o7:Oper} {q d0 d1 d2 d3 d4 d5 d6:Tmp} {qb k g:Nat} {pq ptr:Value} {F:FuncId} {args:Array Value}
theorem zcq.Kas(h:p:=by
 have BZ:∀vs w,Su f val e size base l lv Post w0 vs w->w.cell? ⟨qb,k,none⟩=some lv:=by exact ZbT
 refine oU [o7] [o0,o1,o2,o3,o4,o5,o6] rfl (λ i=>if i=0 then bh qb k else if i=1 then lv else if i=2 then ptr else bh qb k) [3,4,5] (Su f val e size base l lv Post w0) (Pm f val e size base l lv Post w0) (ai.refl w0) hm aZ hz hch Tab rfl ?_ ?_
 ·refine⟨Zdk,ZfJ,Zdm,ZcC,ZbV,?_,Zdn,trivial⟩
  ·intro ρ w vs hc hG hr;rw[t5] at hr;have r0:=hr.1;have r1:=hr.2.1;simp only[s5] at r0;simp only[s5'] at r1;refine⟨g5,?_⟩;show vs.length=2->_;intro hl
   match vs,hl with
   | [a,s],_=>
     have r1:some s=some (ρ (.tmp d4)):=r1;injection r1 with r1;obtain⟨y,w1,gF,gg,ha,hs,h2,h3,h4,h5⟩:=hG;obtain⟨k1,k2,k3⟩:=wu h2 h3 h4;obtain⟨v',w',hrun,ho,yD⟩:=fc (P:=P) (w:=w) t ty z bytes ht jm hzs hsz hf (h1 y) k2 gg h5 hlen mJ (Nat.le_trans hbase k3);refine aq (hap ρ w _ v' w' r0 (r1.symm.trans hs) hrun) ⟨y,w1,gF,w,ha,h2,h3,h4,k2,yD.grown,ho,?_⟩;intro hlv hl0;subst hl0;have k4:aI f e size w w.heap.size lv ([]:List β):=by rw[hlv];exact aI.nil
     obtain⟨v2,ZP,aeO,Y3,_⟩:=fc (P:=P) (w:=w) t ty z bytes ht jm hzs hsz hf (h1 y) k4 gg h5 hlen mJ (Nat.le_refl _);rw[hrun] at aeO;injection aeO with e1 e2;rw[e1,e2];exact Y3
 ·exact Zby):p:=h
theorem yU (t ty:TypeId)(z:Value)(bytes:Nat)
  (hm:P.follows .mixedOrders=true) (aZ:dM [o0,o1,o2,o3,o4,o5,o6] a0.tmps.size [o0,o1,o2,o3,o4,o5,o6] 0=true) (hz:eI [o0,o1,o2,o3,o4,o5,o6,o7] [o7] 7=true) (hch:lx [o0,o1,o2,o3,o4,o5,o6] [3,4,5]=true) (BX:BW o0 o1 o2 o3 o4 o5 o6 q d0 d1 d2 d3 d4 d5 d6=true)
  (hq:a0.eval (.tmp q)=pq) (h0:a0.eval (.tmp 0)=ptr)
  (hfa:∀ρ w,ρ (.tmp q)=pq->(execOp ρ o0).run P w=.ok (.value (bh qb k)) w) (ZO:∀ρ w,ρ (.tmp q)=pq->(execOp ρ o6).run P w=.ok (.value (bh qb k)) w)
  (Z9:∀ρ w,ρ (.tmp d0)=bh qb k->w.cell? ⟨qb,k,none⟩=some lv->(execOp ρ o1).run P w=.ok (.value lv) w)
  (Ei:∀ρ w,ρ (.tmp 0)=ptr->(execOp ρ o2).run P w=.ok (.value ptr) w)
  (cf:∀ρ w,oC ρ->ρ (.tmp d2)=ptr->(execOp ρ o3).run P w=.ok (.enter F args) w)
  (JJ:∀ρ w y,ρ (.tmp d3)=val y->(execOp ρ o4).run P w=.ok (.value (aH w.heap.size 1 1)) (w.alloc (.cells (f y).toArray e)))
  (hap:∀ρ w s v' w',ρ (.tmp d1)=lv->ρ (.tmp d4)=s->(Builtin.append_ #[t,t] ty #[lv,s]).run P w=.ok v' w'->(execOp ρ o5).run P w=.ok (.value v') w')
  (ht:P.underlying t=some (.slice e)) (jm:(P.info? e).map (λ i=>(i.zero,i.size,i.bytes))=some (some z,size,bytes)) (hzs:z.cells.size=size) (hsz:0 < size) (hf:∀x,(f x).length=size) (h1:∀y,∀u∈f y,u.oneCell'=true)
  (hown:aI f e size w0 base lv l) (hcell:w0.cell? ⟨qb,k,none⟩=some lv) (TI:qb≠g) (Xm:lv.ownBlock≠some g) (hlq:lv.ownBlock≠some qb) (hlen:(l.length+1)*bytes<=140737488355328) (mJ:l.length+1<=140737488355328) (hbase:base<=w0.heap.size)
  (lX:∀w,ai w0 w->Calls P F args w λ e w'=>∃y,e=.returned (val y)/\Post y w w') (Sv:∀y w w',Post y w w'->w.grownBy w' (some g))
  (mh:∀y s v' w1 gF w2 W,ai w0 w1->Post y w1 gF->ai gF w2->aI f e size w2 base lv l->w2.grownBy W lv.ownBlock->aI f e size W base v' (l++ [y])->(lv=az->l=[]->aI f e size W w2.heap.size v' [y])->W.cell? ⟨qb,k,none⟩=some lv->
    wpList P [o0,o1,o2,o3,o4,o5,o6,o7].toArray Q [o7] (((((((a0.put (some d0) (bh qb k)).put (some d1) lv).put (some d2) ptr).put (some d3) (val y)).put (some d4) s).put (some d5) v').put (some d6) (bh qb k)) W):
  (Code.region id [o0,o1,o2,o3,o4,o5,o6,o7].toArray true).wp P Q a0 w0:=by
 open zcq in exact ZaU
end
def tC:List (List UInt8):=[[98,117,99,107,101,116],[99,111,117,110,116],[115,117,109],[109,105,110],[109,97,120],[97,118,103],[102,105,114,115,116],[108,97,115,116]]
def mE:List Int:=[20,22,23,24,25,26,27,28]
def xL (l:List Int):Array Value:=(l.map λ o=>Value.int .u8 o).toArray
theorem Ca{x:List UInt8} {i:Nat}(hi:i < 8):∃y o,tC[i]?=some y/\mE[i]?=some o/\(OT.drop i).lookup x=if x==y then some o else(OT.drop (i+1)).lookup x:=by
 rcases(by omega:i=0\/i=1\/i=2\/i=3\/i=4\/i=5\/i=6\/i=7)with rfl | rfl | rfl | rfl | rfl | rfl | rfl | rfl <;> refine⟨_,_,rfl,rfl,?_⟩<;> simp[OT,List.lookup,BH,Ir,Zj,aeJ,aeK,aeL,Sa,Zk] <;> split <;> simp_all
section
variable {W:Ps Tr} {σ:cj} {x y:Tr} {op k:Int}
end
variable{W0:World}
theorem eE.own{row:Option Nat}(h:eE ρ W0 w σ big)(hg:ρ.g < W0.heap.size)(k:w.grownBy w' row)(hr:∀G,row=some G->W0.heap.size<=G):eE ρ W0 w' σ big:=by
 have hl:=h.at_.lt;have hs:=h.size;have ng:some ρ.g≠row:=λ e=>by have:=hr _ e.symm;omega
 have nl:some ρ.gl≠row:=λ e=>by have:=hr _ e.symm;omega
 refine⟨⟨h.at_.blk.grown k ng,hl,λ j t ht=>?_,h.at_.of,h.at_.small,h.at_.ZK⟩,k.os.trans h.grown.os,k.tape.trans h.grown.tape,k.output.trans h.grown.output,Nat.le_trans hs k.size,λ i hi hne=>?_⟩
 ·have hc:=cell_of_heap (k.block ρ.gl WC nl);obtain⟨h1,h2,h3,h4⟩:=h.at_.cell j t ht;exact⟨(hc _).trans h1,(hc _).trans h2,(hc _).trans h3,(hc _).trans h4⟩
 ·rw[k.block i WC (λ e=>by have:=hr _ e.symm;omega)];exact h.grown.block i hi hne
variable{size base:Nat}{v:Value}{S:Nat->Prop}
theorem Pn{f:α->List Value} {e:TypeId} (hf:∀x,(f x).length=size)    {l:List α}(h:aI f e size w base v l) (hS:∀g,base<=g->g < w.heap.size->S g):
  ∃A c,v=.slice A l.length c/\RL f size w S A l:=by
 obtain⟨A,c,hv,_⟩:=h.reads;refine⟨A,c,hv,?_⟩
 match l,h,hv with
 | [],_,_=>exact .inl rfl
 | x::l,h,hv=>obtain⟨g,c',hv',hb,hlt,_⟩:=h.cell hf (k:=0) (x:=x) rfl;rw[hv] at hv';injection hv' with hA _ _;refine .inr ⟨g,0,hA,hS g hb hlt,λ i y j u hy hu=>?_⟩;obtain⟨g2,c2,hv2,_,_,hc⟩:=h.cell hf hy;rw[hv] at hv2;injection hv2 with tO _ _;rw[hA] at tO;injection tO with tO;injection tO with tO _ _;subst tO;rw[Nat.zero_add];exact hc j u hu
def Nr (ρ:dr)(W:World)(t:Tr)(r:dG)(e:Ending)(w':World):Prop:=∃y,e=.returned (mA y)/\t.at_ w' (jg W.heap.size w') y/\eE ρ W w' (.good r) false
def cP (z:Int)(l:dG)(t:Tr)(r:dG):Prop:=∀(ρ:dr) (w:World),ρ.at w (.good l) false->ar 184 #[ρ.ptr,af z] w (Nr ρ w t r)
def mj (l:dG)(t:Tr)(r:dG):Prop:=∀(ρ:dr) (w:World),ρ.at w (.good l) false->ar 199 #[ρ.ptr] w (Nr ρ w t r)
variable{r:dG}
theorem Nr.put(hg:ρ.g < w.heap.size)(hq:w.heap.size<=q)(hd:eE ρ w W (.good r) false)(ht:t.at_ W (jg (q+1) W) y):Nr ρ w t r (.returned (mA y)) (dW W q y):=
 ⟨y,rfl,(ht.dW (Nat.lt_succ_self q) y).more WC,hd.dW hg hq y⟩
theorem amb(hn:dH Zg l=false)(H:cP 3 l t r):cP 2 l t r:=by intro ρ w h;have ee:=h.FK;have hb:=ah w qA;have h0:=h.later hb;have hm:=cq ρ _ _ false h0 ⟨#[110,111,116]⟩ hn;exact ZaP
theorem amc(hn:dH sG l=false)(H:cP 7 l t r):cP 6 l t r:=by intro ρ w h;have ee:=h.FK;have hb:=ah w qA;have h0:=h.later hb;have hm:=cq ρ _ _ false h0 ⟨#[45]⟩ hn;exact ZaP
theorem zia.Kcg(h:p:=by
 refine bodyPost_ret (v:=mA y) Zef rfl ?_
 ·exact Nr.put ee (Nat.le_refl _) D2.ae (ht.more WC)):p:=h
theorem zeS.Ka1(h:p:=by unfold qA at*;go_enter Tryz.func184,Tryz.ntmps184;go_wp2_with fail;refine(H ρ _ h0).mono ?_;rintro e w2 ⟨y,rfl,ht,Po⟩;unfold mA bH;have SD:=Po.blk HQ.ae WC;have jH:=aa SD;obtain⟨z0,z1,z2,z3,z4,z5,z6⟩:=ek SD;obtain⟨y0,y1,y2,y3,y4,y5,y6⟩:=bS SD;have D2:=aa ((eE.cW h hb).trans Po);have hs2:=Po.size;open zia in exact Zgt):p:=h
theorem amd(H:mj l t r):cP 7 l t r:=by intro ρ w h;open zeS in exact Zcz
variable{u:Wd}
theorem zh8.Kcg(h:p:=by
 refine bodyPost_ret (v:=mA y) Zef rfl ?_
 ·exact Nr.put ee (Nat.le_refl _) (HD.ae.later hL) ((HT.ae.later hL).more (Nat.le_refl _))):p:=h
theorem zb3.Kao(h:p:=by have SD:=Sx.ae.later hL;have Po:=HX.ae.later hL;obtain⟨z0,z1,z2,z3,z4,z5,z6⟩:=ek SD;obtain⟨y0,y1,y2,y3,y4,y5,y6⟩:=bS SD;obtain⟨x0,x1,x2,x3,x4,x5,x6⟩:=bS Po;have jH:=aa SD;have hqb:=SD.lt;open zh8 in exact Zgt):p:=h
theorem zeT.Ka1(h:p:=by
 have n2:(z==2)=false:=by rw[beq_eq_false_iff_ne];omega
 have n6:(z==6)=false:=by rw[beq_eq_false_iff_ne];omega
 have n7:(z==7)=false:=by rw[beq_eq_false_iff_ne];omega
 have n3:(z==3)=false:=by rw[beq_eq_false_iff_ne];omega
 have hz5:0<=z/\z<=5:=by omega
 have HBZ:=aa (λ tk=>BV lv z hz WC tk);have UT:=aa hop;have HH:=aa H;clear hlv hz hop H;unfold qA at*;unfold dr.ptr;go_enter Tryz.func184,Tryz.ntmps184;go_wp2_with (first
  |(go_at_call 184;refine(HH.ae ρ _ h0).mono ?_;rintro e w2 ⟨y,rfl,ht,d2⟩;unfold mA bH))
 have hD:=((eE.cW h hb).trans d2).later (ah w2 (.cells #[ag y.op,ag y.v.k,af y.v.n,.string y.v.s,.string y.name,af y.width,.slice y.A y.n y.c] 46));have hX:=aB.new w2 46 #[ag y.op,ag y.v.k,af y.v.n,.string y.v.s,.string y.name,af y.width,.slice y.A y.n y.c];have hQ:=(d2.blk HQ.ae WC).alloc (.cells #[ag y.op,ag y.v.k,af y.v.n,.string y.v.s,.string y.name,af y.width,.slice y.A y.n y.c] 46);have hT:=(ht.later (ah w2 (.cells #[ag y.op,ag y.v.k,af y.v.n,.string y.v.s,.string y.name,af y.width,.slice y.A y.n y.c] 46))).more (B':=w.heap.size+1) WC;have hqx:w.heap.size+1<=w2.heap.size:=by have:=d2.size;omega
 generalize w2.alloc _=W at*;generalize w2.heap.size=qx at*;have HD:=aa hD;have HX:=aa hX;have Sx:=aa hQ;have HT:=aa hT;clear hD hX hQ hT ht d2 h0 hb HQ HH;go_loopg [] 0 (λ k wr=>wr=W);case atStart=>rfl
 case round=>
  obtain rfl:_=W:=hrel;obtain⟨tk,pl,bd,hpl,aoS,ame,uq,cg,hg,JL,uX,hp⟩:=HD.ae.at_.wk;obtain⟨r',na⟩:=hg _ rfl;obtain rfl:u=tk.w:=by injection na
  have Eh:bd < 0:=by simpa [cj.gT] using cg
  have HP:=aa hp;have c2:=hp.c2;have Z0:=HBZ.ae tk;rw[UT.ae] at Z0;clear hpl hg cg uq hp na;open zb3 in exact ZaH):p:=h
theorem sN(lv:Nat)(hlv:lv=0\/lv=1\/lv=4\/lv=5)   (hop:kQ lv u=0)(H:cP ((lv:Int)+1) l t (u::r)):cP lv l t (u::r):=by intro ρ w h;obtain⟨z,hz⟩:∃z:Int,z=lv:=⟨_,rfl⟩;rw[<- hz] at H ⊢;open zeT in exact Zcz
theorem Cb{t:Wd} (hk:t.k=1)(hr:tz t.s=false)(ρ:dr)(w:World)(h:ρ.at w (.good (t::r)) false):
  ar 137 #[ρ.ptr] w λ e w'=>∃n:ByteArray,n=⟨t.s.toArray⟩/\e=.returned (.string n)/\eE ρ w w' (.good r) false:=by refine(abY ρ w _ false h).mono ?_;rintro e w' ⟨x,rfl,d,hg⟩;rw[sK,if_pos ⟨hk,hr⟩] at d;simp only[km,vV,hk,hr,and_self,if_true] at hg;exact⟨x,hg,rfl,d⟩
theorem zeh.KaO(h:p:=by
 have iR:=HK.ae;have hst:=dr.at.step Kx.ae (show tk.w.k≠0 by omega);have HST:=aa hst;have HX:=xM.ae.far (p:=⟨ρ.g,1,none⟩) Tac (af ((ρ.n:Int) - r.length));obtain⟨s0,s1,s2,s3,_⟩:=bP HX;clear HX hst;go_wp2_with (go_at_call 208;refine(FM ⟨2,tk.w.n,⟨#[]⟩⟩ _).mono ?_;rintro e w4 ⟨rfl,b4⟩;have Sy:=(mZ.ae.far (p:=⟨ρ.g,1,none⟩) Tac (af ((ρ.n:Int) - r.length))).later b4;have ahh:=aa Sy;have B4:=aa b4;obtain⟨z0,z1,z2,z3,z4,z5,z6⟩:=ek Sy;obtain⟨y0,y1,y2,y3,y4,y5,y6⟩:=bS Sy;clear Sy b4);have HP:=eo ahh.ae ⟨1,⟨2,tk.w.n,⟨#[]⟩⟩,⟨#[]⟩,0,none,0,0⟩;have HR:=dp HP;unfold dW at HR;obtain⟨r0,r1,r2,r3,r4,r5,r6⟩:=HR;refine bodyPost_ret (v:=mA ⟨1,⟨2,tk.w.n,⟨#[]⟩⟩,⟨#[]⟩,0,none,0,0⟩) ZcG rfl ?_
 ·exact Nr.put (t:=tB ⟨2,tk.w.n,ByteArray.empty⟩) ee (Nat.le_refl _) ((HD.ae.trans HST.ae).later B4.ae) (Iy _ _ _)):p:=h
theorem zap.KW(h:p:=by
 have e1:(pl:Int)+1=(ρ.n:Int) - r.length:=by rw[hpl];simp only[cj.left,length_cons] at*;omega
 open zeh in exact Zb1):p:=h
theorem ZQ{t:Wd} (iR:t.k=2):mj (t::r) (tB ⟨2,t.n,ByteArray.empty⟩) r:=by intro ρ w h;have HK:=aa iR;clear iR;open zap in exact Zaf
theorem zhI.Kb5(h:p:=by
 refine(nV ρ _ _ false d1.at_ ⟨#[102,97,108,115,101]⟩ (show(cj.good (tk.w::r)).head (⟨#[102,97,108,115,101]⟩:ByteArray).data.toList=true from H2.ae)).mono ?_;rintro e w2 ⟨rfl,d2⟩;go_wp2_with fail;refine(FM ⟨1,0,⟨#[]⟩⟩ _).mono ?_;rintro e w9 ⟨rfl,b4⟩;have SD:=((d2.blk ((d1.blk (mZ.ae) WC)) WC)).later b4;have ahh:=aa SD;have B4:=aa b4;obtain⟨z0,z1,z2,z3,z4,z5,z6⟩:=ek SD;obtain⟨y0,y1,y2,y3,y4,y5,y6⟩:=bS SD;have D1:=aa d1;have D2:=aa d2;clear SD b4;go_wp2_with fail;have HP:=eo ahh.ae ⟨1,⟨1,0,⟨#[]⟩⟩,⟨#[]⟩,0,none,0,0⟩;have HR:=dp HP;unfold dW at HR;obtain⟨r0,r1,r2,r3,r4,r5,r6⟩:=HR;refine bodyPost_ret (v:=mA ⟨1,⟨1,0,⟨#[]⟩⟩,⟨#[]⟩,0,none,0,0⟩) ZcG rfl ?_
 ·exact Nr.put (t:=tB ⟨1,0,ByteArray.empty⟩) ee (Nat.le_refl _) ((((HD.ae).trans D1.ae).trans D2.ae).later B4.ae) (Iy _ _ _)):p:=h
theorem zbx.Kai(h:p:=by open zhI in exact ZfL):p:=h
theorem zaq.KW(h:p:=by
 have e1:(pl:Int)+1=(ρ.n:Int) - r.length:=by rw[hpl];simp only[cj.left,length_cons] at*;omega
 open zbx in exact ZaA):p:=h
theorem Pp{t:Wd} (hg:Plain t)(HX:iQ OM t=false)(h2:iQ Aq t=true):mj (t::r) (tB ⟨1,0,ByteArray.empty⟩) r:=by intro ρ w h;have wA:=aa hg;clear hg;have H1:=aa HX;have H2:=aa h2;clear HX h2;open zaq in exact Zaf
theorem zez.KaT(h:p:=by
 have SD:=Pq.ae;have hqb:=SD.lt;obtain⟨z0,z1,z2,z3,z4,z5,z6⟩:=ek SD;obtain⟨y0,y1,y2,y3,y4,y5,y6⟩:=bS SD;clear SD;go_wp2_with fail;have HP:=eo Pq.ae ⟨2,uk,n,0,none,0,0⟩;have HR:=dp HP;unfold dW uk at HR;obtain⟨r0,r1,r2,r3,r4,r5,r6⟩:=HR;refine bodyPost_ret (v:=mA ⟨2,uk,n,0,none,0,0⟩) ZcG rfl ?_
 ·rw[<- HN.ae];exact Nr.put (t:=ui n) ee (Nat.le_refl _) Xo.ae (BJ _ _ _)):p:=h
theorem zea.KaM(h:p:=by rw[show(cj.good r).head (⟨#[40]⟩:ByteArray).data.toList=false from HC.ae] at hwd;open zez in exact Zcm):p:=h
theorem zhJ.Kb5(h:p:=by refine(cq ρ _ _ false d1.at_ ⟨#[102,97,108,115,101]⟩ (show(cj.good (tk.w::r)).head (⟨#[102,97,108,115,101]⟩:ByteArray).data.toList=false from H2.ae)).mono ?_;rintro e w2 ⟨rfl,d2⟩;go_wp2_with fail;refine(cq ρ _ _ false d2.at_ ⟨#[110,117,108,108]⟩ (show(cj.good (tk.w::r)).head (⟨#[110,117,108,108]⟩:ByteArray).data.toList=false from H3.ae)).mono ?_;rintro e w3 ⟨rfl,d3⟩;go_wp2_with fail;refine(cq ρ _ _ false d3.at_ ⟨#[40]⟩ (show(cj.good (tk.w::r)).head (⟨#[40]⟩:ByteArray).data.toList=false from H4.ae)).mono ?_;open zea in exact ZbU):p:=h
theorem zby.Kai(h:p:=by open zhJ in exact ZfL):p:=h
theorem zar.KW(h:p:=by
 have e1:(pl:Int)+1=(ρ.n:Int) - r.length:=by rw[hpl];simp only[cj.left,length_cons] at*;omega
 open zby in exact ZaA):p:=h
theorem zhy.Kb1(h:p:=by clear iR;open zar in exact Zaf):p:=h
theorem Lu{t:Wd} (iR:Lt t)(BO:t.k=1)(Sp:tz t.s=false)(hc:dH eC r=false):mj (t::r) (ui ⟨t.s.toArray⟩) r:=by intro ρ w h;have HF:=aa BO;have IH:=aa Sp;clear BO Sp;have HC:=aa hc;clear hc;open zhy in exact Zfw
def amf (ρ:dr)(x:Tr)(r:dG)(y:Ex)(w w':World):Prop:=Tr.at_ w' (jg w.heap.size w') x y/\eE ρ w w' (.good r) false
theorem ml{s:List UInt8} {t:Wd} (ht:iQ s t=true)(ρ:dr)(w:World)(h:ρ.at w (.good (t::r)) false)(b:Nat)(hb:aB w b 9 (bL [s]))(hbg:ρ.g≠b):
  ar 138 #[ρ.ptr,aH b 1 1] w (BS ρ w (.good r) false):=by have:=UQ ρ w (.good (t::r)) false h [s] b 1 rfl hb hbg WC;rw[BR,rC (show(cj.good (t::r)).head s=true from ht)] at this;exact this
theorem Lv{t:Wd} (hk:t.k=2)(ρ:dr)(w:World)(h:ρ.at w (.good (t::r)) false):
  ar 181 #[ρ.ptr] w λ e w'=>∃x:Int,x=t.n/\0<=x/\x<=9223372036854775807/\e=.returned (af x)/\eE ρ w w' (.good r) false:=by refine(UO ρ w _ false h).mono ?_;rintro e w' ⟨x,hx0,hx1,rfl,d,hg⟩;simp only[km,Iw,hk,if_true] at hg;simp only[dn,Iw,hk,if_true] at d;exact⟨x,hg,hx0,hx1,rfl,d⟩
variable{ob cb:Wd}{x:Tr}
theorem za7.Kae(h:p:=by
 have HP:=eo B5.ae ⟨o,uk,⟨#[]⟩,0,A,1,c⟩;have HR:=dp HP;unfold dW uk at HR;obtain⟨r0,r1,r2,r3,r4,r5,r6⟩:=HR;refine bodyPost_ret (v:=mA ⟨o,uk,⟨#[]⟩,0,A,1,c⟩) ZcG rfl ?_
 ·refine Nr.put (t:=Ap o [x]) ee (Nat.le_refl _) DC.ae ?_;unfold Ap Tr.at_;exact Zc9):p:=h
theorem zbF.Kak(h:p:=by
 obtain⟨n22,n20,n27,n28⟩:=HC.ae;clear HC;go_wp2_with fail;have HX0:=aB.new yX 46 #[ag o,ag 0,af 0,au,au,af 0,az];have ZV:=ah yX (.cells #[ag o,ag 0,af 0,au,au,af 0,az] 46);have px:=aa (LB.ae.later ZV);have uv:=aa (xO.ae.later ZV);have aeT:(yX.alloc (.cells #[ag o,ag 0,af 0,au,au,af 0,az] 46)).heap.size=yX.heap.size+1:=by simp
 have HX:=aa HX0;clear HX0 ZV LB xO c4;generalize yX.alloc _=UW at*;generalize yX.heap.size=qx at*;open za7 in exact Zat):p:=h
theorem zg5.KbP(h:p:=by
 cases he:(n.data.toList==y)
 ·exact ZbE
 ·open zbF in exact ZaC):p:=h
theorem zbC.Kaj(h:p:=by
 go_loopw [8] (λ u wr=>∃k:Nat,k<=8/\u=af k/\aj W8 wr/\mb n=(OT.drop k).lookup n.data.toList) (λ u _=>8 - (intOf u).toNat);case atStart=>exact Zgg
 case round=>
  obtain⟨k,hi,rfl,hP,hlk⟩:=hrel;have DN:=aa hlk;have jI:=aa hP;clear hlk hP;by_cases hlt:k < 8
  ·open zg5 in exact ZeR
  ·exact ZdB):p:=h
theorem zeb.KaM(h:p:=by rw[show(cj.good (ob::l)).head (⟨#[40]⟩:ByteArray).data.toList=true from Q1.ae] at hwd;open zbC in exact ZaB):p:=h
theorem zbz.Kai(h:p:=by refine(cq ρ _ _ false Kx.ae ⟨#[116,114,117,101]⟩ (show(cj.good (tk.w::ob::l)).head (⟨#[116,114,117,101]⟩:ByteArray).data.toList=false from H1.ae)).mono ?_;rintro e w1 ⟨rfl,d1⟩;go_wp2_with fail;refine(cq ρ _ _ false d1.at_ ⟨#[102,97,108,115,101]⟩ (show(cj.good (tk.w::ob::l)).head (⟨#[102,97,108,115,101]⟩:ByteArray).data.toList=false from H2.ae)).mono ?_;rintro e w2 ⟨rfl,d2⟩;go_wp2_with fail;refine(cq ρ _ _ false d2.at_ ⟨#[110,117,108,108]⟩ (show(cj.good (tk.w::ob::l)).head (⟨#[110,117,108,108]⟩:ByteArray).data.toList=false from H3.ae)).mono ?_;rintro e w3 ⟨rfl,d3⟩;go_wp2_with fail;refine(cq ρ _ _ false d3.at_ ⟨#[40]⟩ (show(cj.good (tk.w::ob::l)).head (⟨#[40]⟩:ByteArray).data.toList=false from H4.ae)).mono ?_;open zeb in exact ZbU):p:=h
theorem zas.KW(h:p:=by
 have e1:(pl:Int)+1=(ρ.n:Int) - (ob::l).length:=by rw[hpl];simp only[cj.left,length_cons] at*;omega
 open zbz in exact ZaA):p:=h
theorem zhz.Kb1(h:p:=by clear iR;open zas in exact Zaf):p:=h
theorem ZT{t:Wd}  (OP:Int)(hc:(OP==22)=false/\(OP==20)=false/\(OP==27)=false/\(OP==28)=false)(iR:Lt t)(hF:t.k=1)(ih:tz t.s=false)(q1:iQ eC ob=true)(q2:mb ⟨t.s.toArray⟩=some OP)(H:cP 0 l x (cb::r))(hcb:iQ ez cb=true):mj (t::ob::l) (Ap OP [x]) r:=by intro ρ w h;have HF:=aa hF;have IH:=aa ih;have Q1:=aa q1;have HFN:=aa q2;have HH:=aa H;have HCB:=aa hcb;clear hF ih q1 q2 H hcb;have HC:=aa hc;clear hc;open zhz in exact Zfw
variable{sr:Wd}
theorem zhC.Kb2(h:p:=by
 have Xn:=uv.ae.lt;go_wp2_with fail;have XP:=px.ae.at_.later (ah _ (.cells (bL [ez]) 9));refine(ml Q5.ae ρ _ XP SE.heap.size (aB.new _ _ _) WC).mono ?_;rintro e w12 ⟨rfl,d12⟩;have Pr:=ah SE (.cells (bL [ez]) 9);have SD:=(uv.ae.later Pr).grown d12.grown Tac;have jH:=aa SD;obtain⟨z0,z1,z2,z3,z4,z5,z6⟩:=ek SD;obtain⟨y0,y1,y2,y3,y4,y5,y6⟩:=bS SD;have DC:=aa ((px.ae.later Pr).trans d12);clear SD d12 Pr;go_wp2_with fail;have HP:=eo jH.ae ⟨21,uk,⟨#[]⟩,0,none,0,0⟩;have HR:=dp HP;unfold dW uk at HR;obtain⟨r0,r1,r2,r3,r4,r5,r6⟩:=HR;refine bodyPost_ret (v:=mA ⟨21,uk,⟨#[]⟩,0,none,0,0⟩) ZcG rfl ?_
 ·exact Nr.put (t:=Ap 21 []) ee (Nat.le_refl _) DC.ae (agU _ _ 21)):p:=h
theorem zbG.Kak(h:p:=by
 obtain rfl:=Q3.ae;clear Q3;go_wp2_with fail;have HX0:=aB.new yX 46 #[ag 22,ag 0,af 0,au,au,af 0,az];have ZV:=ah yX (.cells #[ag 22,ag 0,af 0,au,au,af 0,az] 46);have px:=aa (LB.ae.later ZV);have uv:=aa (xO.ae.later ZV);have aeT:(yX.alloc (.cells #[ag 22,ag 0,af 0,au,au,af 0,az] 46)).heap.size=yX.heap.size+1:=by simp
 have HX:=aa HX0;clear HX0 ZV LB xO c4;generalize yX.alloc _=UW at*;generalize yX.heap.size=qx at*;refine(nV ρ _ _ false px.ae.at_ ⟨#[42]⟩ Q4.ae).mono ?_;rintro e SE ⟨rfl,d13⟩;open zhC in exact Zfx):p:=h
theorem zg6.KbP(h:p:=by
 cases he:(n.data.toList==y)
 ·exact ZbE
 ·open zbG in exact ZaC):p:=h
theorem zbD.Kaj(h:p:=by
 go_loopw [8] (λ u wr=>∃k:Nat,k<=8/\u=af k/\aj W8 wr/\mb n=(OT.drop k).lookup n.data.toList) (λ u _=>8 - (intOf u).toNat);case atStart=>exact Zgg
 case round=>
  obtain⟨k,hi,rfl,hP,hlk⟩:=hrel;have DN:=aa hlk;have jI:=aa hP;clear hlk hP;by_cases hlt:k < 8
  ·open zg6 in exact ZeR
  ·exact ZdB):p:=h
theorem zec.KaM(h:p:=by rw[show(cj.good (ob::sr::cb::r)).head (⟨#[40]⟩:ByteArray).data.toList=true from Q1.ae] at hwd;open zbD in exact ZaB):p:=h
theorem zbA.Kai(h:p:=by refine(cq ρ _ _ false Kx.ae ⟨#[116,114,117,101]⟩ (show(cj.good (tk.w::ob::sr::cb::r)).head (⟨#[116,114,117,101]⟩:ByteArray).data.toList=false from H1.ae)).mono ?_;rintro e w1 ⟨rfl,d1⟩;go_wp2_with fail;refine(cq ρ _ _ false d1.at_ ⟨#[102,97,108,115,101]⟩ (show(cj.good (tk.w::ob::sr::cb::r)).head (⟨#[102,97,108,115,101]⟩:ByteArray).data.toList=false from H2.ae)).mono ?_;rintro e w2 ⟨rfl,d2⟩;go_wp2_with fail;refine(cq ρ _ _ false d2.at_ ⟨#[110,117,108,108]⟩ (show(cj.good (tk.w::ob::sr::cb::r)).head (⟨#[110,117,108,108]⟩:ByteArray).data.toList=false from H3.ae)).mono ?_;rintro e w3 ⟨rfl,d3⟩;go_wp2_with fail;refine(cq ρ _ _ false d3.at_ ⟨#[40]⟩ (show(cj.good (tk.w::ob::sr::cb::r)).head (⟨#[40]⟩:ByteArray).data.toList=false from H4.ae)).mono ?_;open zec in exact ZbU):p:=h
theorem zat.KW(h:p:=by
 have e1:(pl:Int)+1=(ρ.n:Int) - (ob::sr::cb::r).length:=by rw[hpl];simp only[cj.left,length_cons] at*;omega
 open zbA in exact ZaA):p:=h
theorem zhB.Kb1(h:p:=by clear iR;open zat in exact Zaf):p:=h
theorem zgP.KbK(h:p:=by clear hF ih q1 q2 q5 q3 q4;open zhB in exact Zfw):p:=h
theorem UU{t:Wd} (OP:Int)(q3:OP=22)(iR:Lt t)(hF:t.k=1)(ih:tz t.s=false)(q1:iQ eC ob=true)(q2:mb ⟨t.s.toArray⟩=some OP)(q4:iQ xE sr=true)(q5:iQ ez cb=true):mj (t::ob::sr::cb::r) (Ap 21 []) r:=by intro ρ w h;open zgP in exact ZeA
variable{nb cm:Wd}
theorem za8.Kae(h:p:=by
 have HP:=eo B5.ae ⟨20,uk,⟨#[]⟩,kk,A,1,c⟩;have HR:=dp HP;unfold dW uk at HR;obtain⟨r0,r1,r2,r3,r4,r5,r6⟩:=HR;refine bodyPost_ret (v:=mA ⟨20,uk,⟨#[]⟩,kk,A,1,c⟩) ZcG rfl ?_
 ·rw[<- HKN.ae];refine Nr.put (t:=.mk 20 jG ByteArray.empty kk [x]) ee (Nat.le_refl _) DC.ae ?_;unfold Tr.at_;exact Zc9):p:=h
theorem zhD.Kb2(h:p:=by
 have asV:=HX.ae.frozen 5;obtain⟨x0,x1,x2,x3,x4,x5,x6⟩:=bS HX.ae;have awH:=HX.ae.lt;have HXk:=HX.ae.aT 5 (af kk);simp only[Uac] at HXk;have HQk:=uv.ae.far (p:=⟨qx,5,none⟩) Tac (af kk);have DK:=px.ae.far ee (show w.heap.size<=qx by omega) 5 (af kk);have kG:=aa HXk;have yV:=aa HQk;have JN:=aa DK;clear HX uv px HXk HQk DK;go_wp2_with fail;clear x0 x1 x2 x3 x4 x5 x6 asV;have JJ:aB ((SE.setCell ⟨qx,5,none⟩ (af kk)).alloc (.cells (bL [dK]) 9)) SE.heap.size 9 (bL [dK]):=by have:=aB.new (SE.setCell ⟨qx,5,none⟩ (af kk)) 9 (bL [dK]);rwa [show(SE.setCell ⟨qx,5,none⟩ (af kk)).heap.size=SE.heap.size by simp[World.setCell]] at this
 have XP:=JN.ae.at_.later (ah _ (.cells (bL [dK]) 9));refine(ml HCM.ae ρ _ XP SE.heap.size JJ WC).mono ?_;rintro e UW ⟨rfl,d14⟩;have bcm:=ah (SE.setCell ⟨qx,5,none⟩ (af kk)) (.cells (bL [dK]) 9);have HX:=aa ((kG.ae.later bcm).grown d14.grown Tac);have uv:=aa ((yV.ae.later bcm).grown d14.grown Tac);have px:=aa ((JN.ae.later bcm).trans d14);have amv:qx+1<=UW.heap.size:=HX.ae.lt;clear kG yV JN d14 bcm XP JJ;go_wp2_with fail;open za8 in exact Zat):p:=h
theorem zbH.Kak(h:p:=by
 obtain rfl:=Q3.ae;clear Q3;go_wp2_with fail;have HX0:=aB.new yX 46 #[ag 20,ag 0,af 0,au,au,af 0,az];have ZV:=ah yX (.cells #[ag 20,ag 0,af 0,au,au,af 0,az] 46);have px:=aa (LB.ae.later ZV);have uv:=aa (xO.ae.later ZV);have aeT:(yX.alloc (.cells #[ag 20,ag 0,af 0,au,au,af 0,az] 46)).heap.size=yX.heap.size+1:=by simp
 have HX:=aa HX0;clear HX0 ZV LB xO c4;generalize yX.alloc _=W11 at*;generalize yX.heap.size=qx at*;refine(Lv II.ae ρ _ px.ae.at_).mono ?_;rintro e SE ⟨kk,zA,hk0,hF,rfl,d13⟩;have HKN:=aa zA;clear zA;open zhD in exact Zfx):p:=h
theorem zg7.KbP(h:p:=by
 cases he:(n.data.toList==y)
 ·exact ZbE
 ·open zbH in exact ZaC):p:=h
theorem zbE.Kaj(h:p:=by
 go_loopw [8] (λ u wr=>∃k:Nat,k<=8/\u=af k/\aj W8 wr/\mb n=(OT.drop k).lookup n.data.toList) (λ u _=>8 - (intOf u).toNat);case atStart=>exact Zgg
 case round=>
  obtain⟨k,hi,rfl,hP,hlk⟩:=hrel;have DN:=aa hlk;have jI:=aa hP;clear hlk hP;by_cases hlt:k < 8
  ·open zg7 in exact ZeR
  ·exact ZdB):p:=h
theorem zed.KaM(h:p:=by rw[show(cj.good (ob::nb::cm::l)).head (⟨#[40]⟩:ByteArray).data.toList=true from Q1.ae] at hwd;open zbE in exact ZaB):p:=h
theorem zbB.Kai(h:p:=by refine(cq ρ _ _ false Kx.ae ⟨#[116,114,117,101]⟩ (show(cj.good (tk.w::ob::nb::cm::l)).head (⟨#[116,114,117,101]⟩:ByteArray).data.toList=false from H1.ae)).mono ?_;rintro e w1 ⟨rfl,d1⟩;go_wp2_with fail;refine(cq ρ _ _ false d1.at_ ⟨#[102,97,108,115,101]⟩ (show(cj.good (tk.w::ob::nb::cm::l)).head (⟨#[102,97,108,115,101]⟩:ByteArray).data.toList=false from H2.ae)).mono ?_;rintro e w2 ⟨rfl,d2⟩;go_wp2_with fail;refine(cq ρ _ _ false d2.at_ ⟨#[110,117,108,108]⟩ (show(cj.good (tk.w::ob::nb::cm::l)).head (⟨#[110,117,108,108]⟩:ByteArray).data.toList=false from H3.ae)).mono ?_;rintro e w3 ⟨rfl,d3⟩;go_wp2_with fail;refine(cq ρ _ _ false d3.at_ ⟨#[40]⟩ (show(cj.good (tk.w::ob::nb::cm::l)).head (⟨#[40]⟩:ByteArray).data.toList=false from H4.ae)).mono ?_;open zed in exact ZbU):p:=h
theorem zau.KW(h:p:=by
 have e1:(pl:Int)+1=(ρ.n:Int) - (ob::nb::cm::l).length:=by rw[hpl];simp only[cj.left,length_cons] at*;omega
 open zbB in exact ZaA):p:=h
theorem zhA.Kb1(h:p:=by clear iR;open zau in exact Zaf):p:=h
theorem LC{t:Wd}  (OP:Int)(hop:OP=20)(iR:Lt t)(hF:t.k=1)(ih:tz t.s=false)(q1:iQ eC ob=true)(q2:mb ⟨t.s.toArray⟩=some OP)(hk2:nb.k=2)(hcm:iQ dK cm=true)(H:cP 0 l x (cb::r))(hcb:iQ ez cb=true):mj (t::ob::nb::cm::l) (.mk 20 jG ByteArray.empty nb.n [x]) r:=by intro ρ w h;have HF:=aa hF;have IH:=aa ih;have Q1:=aa q1;have HFN:=aa q2;have HH:=aa H;have HCB:=aa hcb;have Q3:=aa hop;have II:=aa hk2;have HCM:=aa hcm;clear hF ih q1 q2 H hcb hop hk2 hcm;open zhA in exact Zfw
structure AtC (ρ:dr) (w:World) (q qx:Nat) (wr:World) (l:dG) (t:Tr) (y:Ex):Prop where
 did:eE ρ w wr (.good l) false
 blk:aB wr qx 46 (bH y).toArray
 res:aB wr q 46 #[ag 0,ag 0,af 0,au,au,af 0,az]
 tr:t.at_ wr (Bx (q+1) qx wr) y
variable{wr W2:World}{qx:Nat}
theorem AtC.more(A:AtC ρ w q qx wr l t y)(d:eE ρ wr W2 (.good l) false)(h1:ρ.g < q)(h2:q+1<=qx):AtC ρ w q qx W2 l t y:=
 ⟨A.did.trans d,d.blk A.blk WC,d.blk A.res WC,Tr.at_.keep (vX d.grown WC) _ _ A.tr⟩
structure AtD (ρ:dr) (w:World) (q qx:Nat) (W:World) (r:dG) (t:Tr) (y:Ex):Prop where
 did:eE ρ w W (.good r) false
 blk:aB W qx 46 (bH y).toArray
 res:aB W q 46 #[ag 0,ag 0,af 0,au,au,af 0,az]
 tr:t.at_ W (jg (q+1) W) y
variable{Ws w3:World}{t' t2:Tr}{y' v2:Ex}{l0:dG}{bi:Int}
theorem AtC.round(ee:ρ.g < w.heap.size)(Xn:q=w.heap.size)(hqq:q+1<=qx)(A:AtC ρ w q qx wr l0 t' y')(hW:aj wr W2)(hst:eE ρ W2 Ws (.good l) false)(d2:eE ρ Ws w3 (.good r) false)
  (ht2:t2.at_ w3 (jg Ws.heap.size w3) v2):
  AtD ρ w q qx (dW ((w3.alloc (ur v2)).alloc (zO y' v2)) qx (opY bi (w3.heap.size+1) 2)) r (Ap bi [t',t2]) (opY bi (w3.heap.size+1) 2):=by
 have hz1:=d2.size;have hz2:=hst.size;have hz3:=hW.size;have hqb:=A.blk.lt;have b12:aj w3 ((w3.alloc (ur v2)).alloc (zO y' v2)):=ai.then (ah w3 _) (ah _ _);have hsz:((w3.alloc (ur v2)).alloc (zO y' v2)).heap.size=w3.heap.size+2:=by simp
 have hN:aB ((w3.alloc (ur v2)).alloc (zO y' v2)) (w3.heap.size+1) 46 (bH y'++bH v2).toArray:=by have:=aB.new (w3.alloc (ur v2)) 46 (bH y'++bH v2).toArray;rw[World.size_alloc] at this;exact this
 have hX:aB ((w3.alloc (ur v2)).alloc (zO y' v2)) qx 46 (bH y').toArray:=(((A.blk.later hW).grown hst.grown Tac).grown d2.grown Tac).later b12;have hR:aB ((w3.alloc (ur v2)).alloc (zO y' v2)) q 46 _:=(((A.res.later hW).grown hst.grown Tac).grown d2.grown Tac).later b12;have hD:eE ρ w ((w3.alloc (ur v2)).alloc (zO y' v2)) (.good r) false:=(((A.did.later hW).trans hst).trans d2).later b12
 have hT:(Ap bi [t',t2]).at_ ((w3.alloc (ur v2)).alloc (zO y' v2)) (Bx (q+1) qx ((w3.alloc (ur v2)).alloc (zO y' v2))) (opY bi (w3.heap.size+1) 2):=by
  refine agT bi hN ⟨by omega,by omega,by omega⟩ ?_ ?_
  ·exact Tr.at_.keep (BI b12) _ _ (Tr.at_.keep (vX d2.grown WC) _ _ (Tr.at_.keep (vX hst.grown WC) _ _ (Tr.at_.keep (BI hW) _ _ A.tr)))
  ·exact Tr.at_.keep (alM WC WC) _ _ (ht2.later b12)
 generalize (w3.alloc (ur v2)).alloc (zO y' v2)=W5 at*;refine⟨hD.dW ee WC _,eo hX _,UR hR WC _,?_⟩;exact Tr.at_.keep (OU (Nat.le_refl _)) _ _ (Tr.at_.keep (aeN (S:=λ w=>Bx (q+1) qx w) (λ w i u=>Zn i u) _) _ _ hT)
theorem zh9.Kcg(h:p:=by
 refine bodyPost_ret (v:=mA y) Zef rfl ?_
 ·exact Nr.put ee (Nat.le_refl _) (HA.ae.did.later hL) (Tr.at_.keep (OU (Nat.le_refl _)) _ _ (Tr.at_.keep (BI hL) _ _ HA.ae.tr))):p:=h
theorem zb4.Kao(h:p:=by have SD:=HA.ae.res.later hL;have Po:=HA.ae.blk.later hL;have hqb:=SD.lt;obtain⟨z0,z1,z2,z3,z4,z5,z6⟩:=ek SD;obtain⟨y0,y1,y2,y3,y4,y5,y6⟩:=bS SD;obtain⟨x0,x1,x2,x3,x4,x5,x6⟩:=dp Po;have jH:=aa SD;open zh9 in exact Zgt):p:=h
theorem zfC.Kbi(h:p:=by
 have e1:(ρ.n:Int) - (cj.good (tk.w::r)).left+1=(ρ.n:Int) - r.length:=by simp only[cj.left,length_cons];omega
 have Pt:=aa e1;have asZ:=HA.ae.did.at_.left;clear hpl hg cg uq hp hr2 e1;open zb4 in exact ZaH):p:=h
theorem zcB.Kav(h:p:=by
 go_loopg [] 0 (λ k wr=>wr=w1);case atStart=>rfl
 case round=>
  open zfC in exact Zdx):p:=h
theorem amy(py:dH abJ (u::r)=false)(hop:kQ 3 u=0)(H:cP 4 l t (u::r)):cP 3 l t (u::r):=by
 open zcB in exact Zbb
variable{l2:dG}
theorem zb5.Kao(h:p:=by
 obtain⟨ho1,Y3⟩:=ho;have e0:(o==0)=false:=by rw[beq_eq_false_iff_ne];omega
 have nR:=HA.ae.did.at_.later hL;obtain⟨q0,q1,q2,q3,f1,f2,f3⟩:=nR.facts;have e1:=Pt.ae;have hst:=dr.at.step nR hk0;have tu:l2.length+1<=ρ.n:=by have:=nR.left;have e2:(cj.good (tk.w::l2)).left=l2.length+1:=rfl;omega
 clear nR q0 q2 q3 f2 f3;go_upto_region 23 with (first
  |(go_at_call 184;refine(H2 ρ _ hst.at_).mono ?_;rintro e Kx ⟨v2,rfl,ht2,d2⟩;unfold mA bH;have F:=AtC.round (bi:=o) ee rfl hqx HA.ae hL hst d2 ht2;have hz1:=d2.size;have hz2:=hst.size;have hz3:=hL.size;have B0:=((HA.ae.blk.later hL).grown hst.grown Tac).grown d2.grown Tac;have B1:=B0.alloc (.cells #[ag v2.op,ag v2.v.k,af v2.v.n,.string v2.v.s,.string v2.name,af v2.width,.slice v2.A v2.n v2.c] 46);have B2:=B1.alloc (.cells #[ag y.op,ag y.v.k,af y.v.n,.string y.v.s,.string y.name,af y.width,.slice y.A y.n y.c,ag v2.op,ag v2.v.k,af v2.v.n,.string v2.v.s,.string v2.name,af v2.width,.slice v2.A v2.n v2.c] 46);have N1:=aB.new Kx 46 (bH v2).toArray;have X1:=dp B1;have X2:=dp B2;have X3:=ek B2;have X4:=dp N1;unfold bH at X4;obtain⟨x0,x1,x2,x3,x4,x5,x6⟩:=X1;obtain⟨y0,y1,y2,y3,y4,y5,y6⟩:=X2;obtain⟨z0,z1,z2,z3,z4,z5,z6⟩:=X3;obtain⟨a0,a1,a2,a3,a4,a5,a6⟩:=X4;have HF:=aa F;clear B0 B1 B2 N1 F))
 clear x0 x1 x2 x3 x4 x5 x6 y0 y1 y2 y3 y4 y5 y6 z0 z1 z2 z3 z4 z5 z6 a0 a1 a2 a3 a4 a5 a6;have F:=HF.ae;clear HF;show Code.wp _ _ _ _ (dW ((Kx.alloc (ur v2)).alloc (zO y v2)) qx (opY o (Kx.heap.size+1) 2));generalize dW ((Kx.alloc (ur v2)).alloc (zO y v2)) qx (opY o (Kx.heap.size+1) 2)=W9 at*;generalize opY o (Kx.heap.size+1) 2=Y9 at*;obtain⟨x0,x1,x2,x3,x4,x5,x6⟩:=dp F.blk;obtain⟨z0,z1,z2,z3,z4,z5,z6⟩:=ek F.res;obtain⟨y0,y1,y2,y3,y4,y5,y6⟩:=bS F.res;have hqb:=F.res.lt;have HF:=aa F;clear F;go_wp2_with fail;have HP:=eo HF.ae.res Y9;have HR:=dp HP;unfold dW at HR;obtain⟨r0,r1,r2,r3,r4,r5,r6⟩:=HR;refine bodyPost_ret (v:=mA Y9) Zef rfl ?_
 ·exact Nr.put ee (Nat.le_refl _) HF.ae.did HF.ae.tr):p:=h
theorem zfD.Kbi(h:p:=by
 have e1:(ρ.n:Int) - (cj.good (tk.w::l2)).left+1=(ρ.n:Int) - l2.length:=by simp only[cj.left,length_cons];omega
 have Pt:=aa e1;have asZ:=HA.ae.did.at_.left;clear hpl hg cg uq hp hr2 e1;open zb5 in exact ZaH):p:=h
theorem zcC.Kav(h:p:=by
 go_loopg [] 0 (λ k wr=>wr=w1);case atStart=>rfl
 case round=>
  open zfD in exact Zdx):p:=h
theorem ata(o:Int)(ho:5<=o/\o<=17)(hk0:u.k≠0)(py:dH abJ (u::l2)=false)(hop:kQ 3 u=o)(H:cP 4 l t (u::l2))(H2:cP 4 l2 t2 r):cP 3 l (Ap o [t,t2]) r:=by
 open zcC in exact Zbb
structure FN (u:Wd):Prop where
 b0:kQ 0 u=0
 b1:kQ 1 u=0
 b4:kQ 4 u=0
 b5:kQ 5 u=0
 is_:iQ abJ u=false
structure xP (l:dG):Prop where
 no:dH Zg l=false
 mi:dH sG l=false
theorem B6(h:mj l t (u::r))(hb:xP l)(hu:FN u):cP 4 l t (u::r):=
 sN 4 (.inr (.inr (.inl rfl))) hu.b4 (sN 5 (.inr (.inr (.inr rfl))) hu.b5 (amc hb.mi (amd h)))
theorem up3(h:cP 3 l t (u::r))(hb:xP l)(hu:FN u):cP 0 l t (u::r):=
 sN 0 (.inl rfl) hu.b0 (sN 1 (.inr (.inl rfl)) hu.b1 (amb hb.no h))
theorem LD(h:mj l t (u::r))(hb:xP l)(hu:FN u)(h3:kQ 3 u=0):cP 0 l t (u::r):=
 up3 (amy hu.is_ h3 (B6 h hb hu)) hb hu
theorem amz{c:Wd} (o:Int)(ho:5<=o/\o<=17)(hk0:c.k≠0)(hc:FN c)(hop:kQ 3 c=o)(h:mj l t (c::l2))(hb:xP l)(h2:mj l2 t2 (u::r))(hb2:xP l2)(hu:FN u):cP 0 l (Ap o [t,t2]) (u::r):=
 up3 (ata o ho hk0 hc.is_ hop (B6 h hb hc) (B6 h2 hb2 hu)) hb hu
section
variable {s:List UInt8} {σ:cj} {x:Tr}
end
section
variable {α:Type} {el:Ps α} {σ yT:cj} {acc:List α} {x:α}
end
def nL (y:Sl):Value:=.slice y.A y.n y.c
def _root_.Go.Proofs.YtndgjggokjickaaGreatDoor.Sl.nil:Sl:=⟨none,0,0⟩
def El.sl(E:El α)(w:World)(S:Nat->Prop)(y:Sl)(l:List α):Prop:=E.lies w S y.A y.n l
theorem El.uw(E:El α)(w:World)(S:Nat->Prop):E.sl w S Sl.nil []:=E.Zm w S
variable{E:El α}{S':Nat->Prop}
theorem El.sl.keep{y:Sl} {l:List α}(h:E.sl w S y l)(hk:∀b,S b->(∀o,w'.cell? ⟨b,o,none⟩=w.cell? ⟨b,o,none⟩)/\S' b):E.sl w' S' y l:=El.lies.keep h hk
structure xQ where
 items:Sl:=.nil
 bT:ByteArray:=ByteArray.empty
 only:Bool:=false
 cD:Sl:=.nil
 group:Sl:=.nil
 having:Sl:=.nil
 order:Sl:=.nil
 dv:Sl:=.nil
def LF (y:xQ):List Value:=[nL y.items,.string y.bT,.bool y.only,nL y.cD,nL y.group,nL y.having,nL y.order,nL y.dv]
def quV (y:xQ):Value:=.agg (LF y).toArray
structure Qu.at_ (w:World) (S:Nat->Prop) (q:Qu) (y:xQ):Prop where
 items:ry.sl w S y.items q.items
 bT:y.bT=q.bT
 only:y.only=q.only
 cD:Ix.sl w S y.cD q.cD
 group:Ix.sl w S y.group q.group
 having:Ix.sl w S y.having q.having
 order:sH.sl w S y.order q.order
 dv:Sb.sl w S y.dv q.dv
theorem Qu.at_.keep{q:Qu} {y:xQ}(hk:∀b,S b->(∀o,w'.cell? ⟨b,o,none⟩=w.cell? ⟨b,o,none⟩)/\S' b)(h:q.at_ w S y):q.at_ w' S' y:=
 ⟨h.items.keep hk,h.bT,h.only,h.cD.keep hk,h.group.keep hk,h.having.keep hk,h.order.keep hk,h.dv.keep hk⟩
theorem Qu.B7 (w:World)(S:Nat->Prop):Qu.at_ w S {} {}:=⟨ry.uw _ _,rfl,rfl,Ix.uw _ _,Ix.uw _ _,Ix.uw _ _,sH.uw _ _,Sb.uw _ _⟩
structure B8 where
 kind:Int:=0
 name:ByteArray:=ByteArray.empty
 cols:Sl:=.nil
 time:ByteArray:=ByteArray.empty
 every:Int:=0
 space:ByteArray:=ByteArray.empty
 parts:Int:=0
 query:xQ:= {}
 what:Int:=0
 of_:ByteArray:=ByteArray.empty
 a:Int:=0
 b:Int:=0
 rows:Sl:=.nil
 agR:Sl:=.nil
 cD:Sl:=.nil
 bT:Val:=jG
 eD:Val:=jG
def B9 (v:Val):List Value:=[ag v.k,af v.n,.string v.s]
def sO (y:B8):List Value:=[ag y.kind,.string y.name,nL y.cols,.string y.time,af y.every,.string y.space,af y.parts]++LF y.query++ [ag y.what,.string y.of_,af y.a,af y.b,nL y.rows,nL y.agR,nL y.cD]++B9 y.bT++B9 y.eD
def stV (y:B8):Value:=.agg (sO y).toArray
variable{G:Nat}
theorem C1(h:aB w G 46 (bH y).toArray)(hS:S G)(hx:x.at_ w S y):Ix.sl w S ⟨some ⟨G,0,none⟩,1,1⟩ [x]:=
 ⟨rfl,[y],OW (f:=bH) uj (by show aB w G _ (bH y++ []).toArray;rw[append_nil];exact h) hS,.one hx⟩
def SF (y:Ex×ByteArray):List Value:=bH y.1++ [.string y.2]
def itV (y:Ex×ByteArray):Value:=.agg (SF y).toArray
theorem dw{a b i:Value}(h:aB w q T #[a,b,c,d,e,f,g,i]):
  w.cell? ⟨q,0,none⟩=some a/\w.cell? ⟨q,1,none⟩=some b/\w.cell? ⟨q,2,none⟩=some c/\w.cell? ⟨q,3,none⟩=some d/\w.cell? ⟨q,4,none⟩=some e/\w.cell? ⟨q,5,none⟩=some f/\w.cell? ⟨q,6,none⟩=some g/\w.cell? ⟨q,7,none⟩=some i:=
 ⟨h.cell 0,h.cell 1,h.cell 2,h.cell 3,h.cell 4,h.cell 5,h.cell 6,h.cell 7⟩
theorem lB(h:aB w q T cs):
  w.frozen? ⟨q,0,none⟩=false/\w.frozen? ⟨q,1,none⟩=false/\w.frozen? ⟨q,2,none⟩=false/\w.frozen? ⟨q,3,none⟩=false/\w.frozen? ⟨q,4,none⟩=false/\w.frozen? ⟨q,5,none⟩=false/\w.frozen? ⟨q,6,none⟩=false/\w.frozen? ⟨q,7,none⟩=false:=
 ⟨h.frozen 0,h.frozen 1,h.frozen 2,h.frozen 3,h.frozen 4,h.frozen 5,h.frozen 6,h.frozen 7⟩
def ux (w:World)(q:Nat)(y:Ex)(v:Value):World:=(dW w q y).setCell ⟨q,7,none⟩ v
theorem eE.ux(h:eE ρ W w σ big)(hW:ρ.g < W.heap.size)(hq:W.heap.size<=q)(y:Ex)(v:Value):eE ρ W (ux w q y v) σ big:=(h.dW hW hq y).far hW hq 7 v
theorem Tr.at_.ux(h:t.at_ w (jg B w) y)(hq:q < B)(z:Ex)(v:Value):t.at_ (ux w q z v) (jg B (Go.Proofs.YtndgjggokjickaaGreatDoor.R.ux w q z v)) y:=(h.dW hq z).set hq 7 v
theorem LG{a b i:Value}(h:aB w q T #[a,b,c,d,e,f,g,i])(y:Ex)(v:Value):aB (ux w q y v) q T (bH y++ [v]).toArray:=by have:=((((((((h.aT 0 (ag y.op)).aT 1 (ag y.v.k)).aT 2 (af y.v.n)).aT 3 (.string y.v.s)).aT 4 (.string y.name)).aT 5 (af y.width)).aT 6 (.slice y.A y.n y.c)).aT 7 v);exact ZdK
def itZ:Obj:=.cells #[ag 0,ag 0,af 0,au,au,af 0,az,au] 48
def kR:List Nat->Nat
 | []=>0
 | a::l=>max a (kR l)
theorem yY:∀(l:List Nat) (a:Nat),kR (l++ [a])=max (kR l) a
 | [],a=>by simp[kR]
 | b::l,a=>by simp only[cons_append,kR,yY l a];omega
theorem UY{l:List Nat} {i d:Nat}(h:l[i]?=some d):kR (l.take (i+1))=max (kR (l.take i)) d:=by rw[take_add_one,h];exact yY _ _
theorem LH:∀ {l:List Nat} {d:Nat},d∈l->d<=kR l
 | a::l,d,h=>by
   rcases List.mem_cons.1 h with rfl | h
   ·simp only[kR];omega
   ·have:=LH h;simp only[kR];omega
theorem wC:∀(l:List Nat) (i:Nat),kR (l.take i)<=kR l
 | [],i=>by simp[kR]
 | a::l,0=>by simp[kR]
 | a::l,i+1=>by have:=wC l i;simp only[take_succ_cons,kR];omega
theorem yZ:∀ts:List Tr,Tr.iz ts=kR (ts.map Tr.depth)
 | []=>by simp[Tr.iz,kR]
 | t::ts=>by simp[Tr.iz,kR,yZ ts]
def SG (f:FuncId)(w:World)(y:Ex)(d:Nat):Prop:=∀W,aj w W->ar f #[mA y] W λ e w'=>e=.returned (af d)/\aj W w'
theorem LI (w:World)(y:Ex)(ys:List Ex)(ds:List Nat)(S:Nat->Prop)(hS:∀b,S b->b < w.heap.size)(hn:y.n=ys.length)(hA:RL bH 7 w S y.A ys)(hd:ds.length=ys.length)(hD:∀(k:Nat) x d,ys[k]?=some x->ds[k]?=some d->SG 89 w x d)(hm:kR ds<=1000000)(hl:ys.length<=1000000000):SG 89 w y (kR ds+1):=by
 intro W Kx;obtain⟨JI,yv,ld,gO,yA,yn,yc⟩:=y;have hn:yn=ys.length:=hn;subst hn;have HD:=aa hD;have HM:=aa hm;have HDL:=aa hd;have HA:=aa hA;clear hD hm hd hA;unfold mA bH;have HX:=aB.new W 46 #[ag JI,ag yv.k,af yv.n,.string yv.s,.string ld,af gO,.slice yA ys.length yc];have hb:=ah W (.cells #[ag JI,ag yv.k,af yv.n,.string yv.s,.string ld,af gO,.slice yA ys.length yc] 46);go_enter Tryz.func89,Tryz.ntmps89;go_wp2_with fail;generalize W.alloc _=W1 at*;have jI:=aa hb;have HW:=aa Kx;clear hb;go_loopw [3,4] (λ m iv wr=>∃k:Nat,k<=ys.length/\iv=af k/\m=af (kR (ds.take k))/\aj W1 wr) (λ _ iv _=>ys.length - (intOf iv).toNat);case atStart=>exact Zgf
 case round=>
  obtain⟨k,hi,rfl,rfl,hW⟩:=hrel;have x6:=(HX.later hW).cell 6;simp only[Uaa] at x6;have Ek:=wC ds k;have Nl:=HM.ae;by_cases hlt:k < ys.length
  ·obtain⟨x,hx⟩:∃x,ys[k]?=some x:=⟨_,getElem?_eq_getElem hlt⟩;obtain⟨d,hdd⟩:∃d,ds[k]?=some d:=⟨_,getElem?_eq_getElem (by rw[HDL.ae];exact hlt)⟩;have hDx:=HD.ae k x d hx hdd;have hdm:=LH (mem_of_getElem? hdd);have HMT:=aa (UY hdd);have hwr:aj w wr:=Kx.trans ((ai.then jI.ae hW).mono Kx.size);rcases HA.ae with h0 |⟨b,off,hAe,hSb,hc⟩
   ·subst h0;simp at hlt
   have z:=λ j u hu=>(hwr.cell (p:=⟨b,off+k*7+j,none⟩) (hS b hSb)).trans (hc k x j u hx hu)
   have k0:=z 0 _ rfl;have k1:=z 1 _ rfl;have k2:=z 2 _ rfl;have k3:=z 3 _ rfl;have k4:=z 4 _ rfl;have k5:=z 5 _ rfl;have k6:=z 6 _ rfl;simp only[Nat.add_zero] at k0;clear hx hdd z hc;subst hAe;go_wp2_with fail;refine(hDx wr hwr).mono ?_;rintro e w' ⟨rfl,b'⟩;go_wp2_with fail;go_roundw;case rel=>refine⟨k+1,by omega,by go_num,?_,hW.trans (b'.mono hW.size)⟩;first | rw[HMT.ae,show(max ((kR (ds.take k):Nat):Int) (d:Int))=((max (kR (ds.take k)) d:Nat):Int) by omega] |(rw[HMT.ae];congr 1;split <;> omega)
   case measure=>exact Za1
  ·obtain rfl:k=ys.length:=by omega
   have lU:ds.take ys.length=ds:=take_of_length_le (Nat.le_of_eq HDL.ae);rw[lU] at Ek;simp only[lU];go_wp2_with fail;go_ret;exact⟨mV WC,ai.then jI.ae hW⟩
mutual
def Tr.thin:Tr->Prop
 | .mk op v name width args=>args.length<=1000000000/\Tr.za args
def Tr.za:List Tr->Prop
 | []=>True
 | t::ts=>t.thin/\Tr.za ts
end
mutual
theorem Tr.amC {w:World} {S:Nat->Prop}(hS:∀b,S b->b < w.heap.size):∀(t:Tr) (y:Ex),t.at_ w S y->t.thin->t.depth<=1000000->SG 89 w y t.depth
 | .mk op v name width args,y,h,ht,hd=>by unfold Tr.at_ at h;obtain⟨_,_,_,_,hn,ys,hr,ha⟩:=h;unfold Tr.thin at ht;simp only[Tr.depth] at hd ⊢;have hl:=Tr.aO.length ha;rw[yZ] at hd ⊢;exact LI w y ys (args.map Tr.depth) S hS (by rw[hn,hl]) hr (by simp[hl]) (Tr.aeV hS args ys ha ht.2 WC) WC (by rw[hl];exact ht.1)
theorem Tr.aeV {w:World} {S:Nat->Prop}(hS:∀b,S b->b < w.heap.size):∀(ts:List Tr) (ys:List Ex),Tr.aO w S ts ys->Tr.za ts->kR (ts.map Tr.depth)<=1000000->∀(i:Nat) x d,ys[i]?=some x->(ts.map Tr.depth)[i]?=some d->SG 89 w x d
 | [],ys,h,_,_,i,x,d,hx,hd=>by simp at hd
 | t::ts,ys,h,ht,hm,i,x,d,hx,hd=>by
   unfold Tr.aO at h;obtain⟨y,ys',rfl,h1,h2⟩:=h;unfold Tr.za at ht;simp only[map_cons,kR] at hm
   match i,hx,hd with
   | 0,hx,hd=>simp at hx hd;subst hx hd;exact Tr.amC hS t y h1 ht.1 WC
   | i+1,hx,hd=>exact Tr.aeV hS ts ys' h2 ht.2 WC i x d (by simpa using hx) (by simpa using hd)
end
theorem acb{s:ByteArray} {l:List rp}(h:zK s.data.toList=.ok l) (hs:s.size<=4294967280):
  ar 85 #[.string s] w λ e w'=>∃A c,e=.returned (.tuple #[.slice A l.length c,af 0,af 0])/\Ln w' w.heap.size (.slice A l.length c) l/\aj w w':=by refine(ZJ s w hs).mono ?_;intro e w' hp;unfold wh at hp;rw[h] at hp;obtain⟨v,rfl,ho,hb⟩:=hp;obtain⟨A,c,rfl⟩:=ho.form;exact⟨A,c,rfl,ho,hb⟩
variable{P:Program}
theorem zdO.KaH(h:p:=by exact⟨v',w',hr,ho,ha,h4⟩):p:=h
theorem zQ{f:α->List Value} {e:TypeId}   {lv:Value} {l:List α} {y:α}  (t ty:TypeId)(z:Value)(bytes:Nat)(ht:P.underlying t=some (.slice e))(jm:(P.info? e).map (λ i=>(i.zero,i.size,i.bytes))=some (some z,size,bytes))(hzs:z.cells.size=size)(hsz:0 < size)
  (hf:∀x,(f x).length=size) (h1:∀u∈f y,u.oneCell'=true) (hown:aI f e size w base lv l)
  (g0:Nat) (hg0:aB w g0 e (f y).toArray) (hlen:(l.length+1)*bytes<=140737488355328) (mJ:l.length+1<=140737488355328) (hbase:base<=w.heap.size):
  ∃v' w',(Builtin.append_ #[t,t] ty #[lv,aH g0 1 1]).run P w=.ok v' w'/\aI f e size w' base v' (l++ [y])/\AR f e size base lv l y w w'/\(v'.ownBlock=lv.ownBlock\/v'.ownBlock=some w.heap.size):=by
 open zdO in exact ZbG
section
variable {P:Program} {β:Type} (f:β->List Value) (val:β->Value) (e:TypeId) (size base:Nat) (l:List β) (lv:Value) (Post:β->World->World->Prop) (w0:World)
def IJ:List Value->World->Prop
 | [],w=>ai w0 w
 | [a],w=>∃y w1 gF,a=val y/\ai w0 w1/\Post y w1 gF/\ai gF w
 | [a,s],w=>∃y w1 gF g0,a=val y/\s=aH g0 1 1/\ai w0 w1/\Post y w1 gF/\ai gF w/\aB w g0 e (f y).toArray
 | [a,s,v],w=>∃y w1 gF w2,a=val y/\ai w0 w1/\Post y w1 gF/\ai gF w2/\aI f e size w2 base lv l/\w2.grownBy w lv.ownBlock/\aI f e size w base v (l++ [y])/\(v.ownBlock=lv.ownBlock\/v.ownBlock=some w2.heap.size)
 | _,_=>False
theorem LJ (vs:List Value)(w:World)(h:IJ f val e size base l lv Post w0 vs w):IJ f val e size base l lv Post w0 vs w.drew:=by
 match vs,h with
 | [],h=>exact ai.trans h (ai.drew _)
 | [a],⟨y,w1,gF,h1,h2,h3,h4⟩=>exact⟨y,w1,gF,h1,h2,h3,h4.trans (ai.drew _)⟩
 | [a,s],⟨y,w1,gF,g0,h1,h2,h3,h4,h5,h6⟩=>exact Zhv
 | [a,s,v],⟨y,w1,gF,w2,h1,h2,h3,h4,h5,h6,h7,h8⟩=>exact⟨y,w1,gF,w2,h1,h2,h3,h4,h5,⟨h6.os,h6.tape,h6.output,h6.size,h6.block⟩,h7.later (ai.drew _),h8⟩
 | _::_::_::_::_,h=>exact h.elim
variable {f val e size base l lv Post w0}
variable {Q:Exit->Act->World->Prop} {a0:Act} {id:Nat} {o0 o1 o2 o3 o4 o5 o6 o7:Oper} {q d0 d1 d2 d3 d4 d5 d6:Tmp} {qb k g:Nat} {pq ptr:Value} {F:FuncId} {args:Array Value}
theorem zcr.Kas(h:p:=by
 have BZ:∀vs w,IJ f val e size base l lv Post w0 vs w->w.cell? ⟨qb,k,none⟩=some lv:=by exact ZbT
 refine oU [o7] [o0,o1,o2,o3,o4,o5,o6] rfl (λ i=>if i=0 then bh qb k else if i=1 then lv else if i=2 then ptr else bh qb k) [3,4,5] (IJ f val e size base l lv Post w0) (LJ f val e size base l lv Post w0) (ai.refl w0) hm aZ hz hch Tab rfl ?_ ?_
 ·refine⟨Zdk,ZfJ,Zdm,ZcC,ZbV,?_,Zdn,trivial⟩
  ·intro ρ w vs hc hG hr;rw[t5] at hr;have r0:=hr.1;have r1:=hr.2.1;simp only[s5] at r0;simp only[s5'] at r1;refine⟨g5,?_⟩;show vs.length=2->_;intro hl
   match vs,hl with
   | [a,s],_=>have r1:some s=some (ρ (.tmp d4)):=r1;injection r1 with r1;obtain⟨y,w1,gF,gg,ha,hs,h2,h3,h4',h5⟩:=hG;obtain⟨k1,k2,k3⟩:=wu h2 h3 h4';obtain⟨v',w',hrun,ho,yD,h4⟩:=zQ (P:=P) (w:=w) t ty z bytes ht jm hzs hsz hf (h1 y) k2 gg h5 hlen mJ (Nat.le_trans hbase k3);exact aq (hap ρ w _ v' w' r0 (r1.symm.trans hs) hrun) ⟨y,w1,gF,w,ha,h2,h3,h4',k2,yD.grown,ho,h4⟩
 ·exact Zby):p:=h
theorem IK (t ty:TypeId)(z:Value)(bytes:Nat)
  (hm:P.follows .mixedOrders=true) (aZ:dM [o0,o1,o2,o3,o4,o5,o6] a0.tmps.size [o0,o1,o2,o3,o4,o5,o6] 0=true) (hz:eI [o0,o1,o2,o3,o4,o5,o6,o7] [o7] 7=true) (hch:lx [o0,o1,o2,o3,o4,o5,o6] [3,4,5]=true) (BX:BW o0 o1 o2 o3 o4 o5 o6 q d0 d1 d2 d3 d4 d5 d6=true)
  (hq:a0.eval (.tmp q)=pq) (h0:a0.eval (.tmp 0)=ptr)
  (hfa:∀ρ w,ρ (.tmp q)=pq->(execOp ρ o0).run P w=.ok (.value (bh qb k)) w) (ZO:∀ρ w,ρ (.tmp q)=pq->(execOp ρ o6).run P w=.ok (.value (bh qb k)) w)
  (Z9:∀ρ w,ρ (.tmp d0)=bh qb k->w.cell? ⟨qb,k,none⟩=some lv->(execOp ρ o1).run P w=.ok (.value lv) w)
  (Ei:∀ρ w,ρ (.tmp 0)=ptr->(execOp ρ o2).run P w=.ok (.value ptr) w)
  (cf:∀ρ w,oC ρ->ρ (.tmp d2)=ptr->(execOp ρ o3).run P w=.ok (.enter F args) w)
  (JJ:∀ρ w y,ρ (.tmp d3)=val y->(execOp ρ o4).run P w=.ok (.value (aH w.heap.size 1 1)) (w.alloc (.cells (f y).toArray e)))
  (hap:∀ρ w s v' w',ρ (.tmp d1)=lv->ρ (.tmp d4)=s->(Builtin.append_ #[t,t] ty #[lv,s]).run P w=.ok v' w'->(execOp ρ o5).run P w=.ok (.value v') w')
  (ht:P.underlying t=some (.slice e)) (jm:(P.info? e).map (λ i=>(i.zero,i.size,i.bytes))=some (some z,size,bytes)) (hzs:z.cells.size=size) (hsz:0 < size) (hf:∀x,(f x).length=size) (h1:∀y,∀u∈f y,u.oneCell'=true)
  (hown:aI f e size w0 base lv l) (hcell:w0.cell? ⟨qb,k,none⟩=some lv) (TI:qb≠g) (Xm:lv.ownBlock≠some g) (hlq:lv.ownBlock≠some qb) (hlen:(l.length+1)*bytes<=140737488355328) (mJ:l.length+1<=140737488355328) (hbase:base<=w0.heap.size)
  (lX:∀w,ai w0 w->Calls P F args w λ e w'=>∃y,e=.returned (val y)/\Post y w w') (Sv:∀y w w',Post y w w'->w.grownBy w' (some g))
  (mh:∀y s v' w1 gF w2 W,ai w0 w1->Post y w1 gF->ai gF w2->aI f e size w2 base lv l->w2.grownBy W lv.ownBlock->aI f e size W base v' (l++ [y])->(v'.ownBlock=lv.ownBlock\/v'.ownBlock=some w2.heap.size)->W.cell? ⟨qb,k,none⟩=some lv->
    wpList P [o0,o1,o2,o3,o4,o5,o6,o7].toArray Q [o7] (((((((a0.put (some d0) (bh qb k)).put (some d1) lv).put (some d2) ptr).put (some d3) (val y)).put (some d4) s).put (some d5) v').put (some d6) (bh qb k)) W):
  (Code.region id [o0,o1,o2,o3,o4,o5,o6,o7].toArray true).wp P Q a0 w0:=by
 open zcr in exact ZaU
end
def C2 (y:Ex×Bool):List Value:=bH y.1++ [.bool y.2]
def orV (y:Ex×Bool):Value:=.agg (C2 y).toArray
def orZ:Obj:=.cells #[ag 0,ag 0,af 0,au,au,af 0,az,.bool false] 117
def xR (B:Nat)(v:Value)(w:World):Nat->Prop:=λ b=>B<=b/\b < w.heap.size/\some b≠v.ownBlock
theorem pz{g:Nat}  (h:w.grownBy w' (some g))(hg:g < B):∀b,xR B v w b->(∀o,w'.cell? ⟨b,o,none⟩=w.cell? ⟨b,o,none⟩)/\xR B v w' b:=λ b hb=>
 ⟨cell_of_heap (h.block b hb.2.1 (λ e=>by injection e with e;have:=hb.1;omega)),hb.1,Nat.lt_of_lt_of_le hb.2.1 h.size,hb.2.2⟩
theorem pA(h:aj w w'):∀b,xR B v w b->(∀o,w'.cell? ⟨b,o,none⟩=w.cell? ⟨b,o,none⟩)/\xR B v w' b:=λ b hb=>
 ⟨cell_of_heap (h.block b hb.2.1),hb.1,Nat.lt_of_lt_of_le hb.2.1 h.size,hb.2.2⟩
variable{v':Value}
theorem Ce(h:w.grownBy w' v.ownBlock)(hv:v'.ownBlock=v.ownBlock\/v'.ownBlock=some w.heap.size):∀b,xR B v w b->(∀o,w'.cell? ⟨b,o,none⟩=w.cell? ⟨b,o,none⟩)/\xR B v' w' b:=λ b hb=>
 ⟨cell_of_heap (h.block b hb.2.1 hb.2.2),hb.1,Nat.lt_of_lt_of_le hb.2.1 h.size,λ e=>by
   rcases hv with hv | hv
   ·exact hb.2.2 (e.trans hv)
   ·rw[hv] at e;injection e with e;have:=hb.2.1;omega⟩
variable{B':Nat}
theorem C3(hB:B'<=B)(hv:∀g,v.ownBlock=some g->g < B):∀b,jg B w b->(∀o,w.cell? ⟨b,o,none⟩=w.cell? ⟨b,o,none⟩)/\xR B' v w b:=λ b hb=>
 ⟨λ _=>rfl,Nat.le_trans hB hb.1,hb.2,λ e=>by have:=hv b e.symm;have:=hb.1;omega⟩
theorem LK(hB:B'<=B):∀b,xR B v w b->(∀o,w.cell? ⟨b,o,none⟩=w.cell? ⟨b,o,none⟩)/\jg B' w b:=λ b hb=>⟨λ _=>rfl,Nat.le_trans hB hb.1,hb.2.1⟩
structure kr {α:Type} (E:El α) (T:TypeId) (w:World) (B:Nat) (v:Value) (l:List α):Prop where
 has:∃ys:List E.β,aI E.f T E.size w B v ys/\mD (E.rel w (xR B v w)) l ys
section
variable {α:Type} {E:El α} {T:TypeId} {w w':World} {B g:Nat} {v:Value} {l:List α}
theorem kr.Pu (h:kr E T w B v l) {G:Nat}(hG:v.ownBlock=some G):B<=G/\G < w.heap.size:=by obtain⟨ys,h1,h2⟩:=h.has;exact⟨(h1.lt hG).2.1,(h1.lt hG).1⟩
theorem kr.grown (h:kr E T w B v l)(hb:w.grownBy w' (some g))(hg:g < B):kr E T w' B v l:=by obtain⟨ys,h1,h2⟩:=h.has;exact⟨ys,h1.grown hb (λ e=>by have:=(h1.lt e).2.1;omega),h2.imp λ x y=>E.keep (pz hb hg)⟩
theorem kr.sl (h:kr E T w B v l) {B':Nat}(hB:B'<=B):∃y:Sl,v=nL y/\y.n=l.length/\E.sl w (jg B' w) y l:=by obtain⟨ys,h1,h2⟩:=h.has;obtain⟨A,c,hv,hr⟩:=Pn E.hf h1 (S:=jg B' w) (λ g h3 h4=>⟨by omega,h4⟩);refine⟨⟨A,l.length,c⟩,?_,rfl,rfl,ys,hr,h2.imp λ x y=>E.keep (LK hB)⟩;rw[hv,h2.len];rfl
theorem kr.nil (E:El α)(T:TypeId)(w:World)(B:Nat):kr E T w B (az) []:=⟨[],aI.nil,.nil⟩
end
def SlW (ρ:dr)(w:World)(l:List Tr)(r:dG)(e:Ending)(w':World):Prop:=∃y:Sl,e=.returned (nL y)/\Ix.sl w' (jg w.heap.size w') y l/\eE ρ w w' (.good r) false
theorem FO{s:ByteArray} (hs:dH s.data.toList r=false)(ρ:dr)(w:World)(h:ρ.at w (.good r) false):ar 142 #[ρ.ptr,.string s] w (SlW ρ w [] r):=by have HL:=cq ρ w _ false h s hs;clear hs;go_enter Tryz.func142,Tryz.ntmps142;go_wp2_with fail;refine HL.mono ?_;rintro e w1 ⟨rfl,b1⟩;go_wp2_with fail;go_ret;exact⟨Sl.nil,rfl,El.uw _ _ _,b1⟩
theorem Pv{s:ByteArray} {k:Wd}  (hs:iQ s.data.toList k=true)(H:cP 0 l x r)(ρ:dr)(w:World)(h:ρ.at w (.good (k::l)) false):ar 142 #[ρ.ptr,.string s] w (SlW ρ w [x] r):=by have HL:=nV ρ w _ false h s hs;have ee:=h.FK;have HH:=aa H;clear hs H;go_enter Tryz.func142,Tryz.ntmps142;go_wp2_with fail;refine HL.mono ?_;rintro e w1 ⟨rfl,b1⟩;go_wp2_with fail;refine(HH.ae ρ _ b1.at_).mono ?_;rintro e w2 ⟨y,rfl,ht,d2⟩;unfold mA bH;go_wp2_with fail;go_ret;have hs:=b1.size;exact⟨⟨some ⟨w2.heap.size,0,none⟩,1,1⟩,rfl,C1 (aB.new w2 _ _) ⟨by have:=d2.size;omega,by simp⟩ ((ht.later (ah w2 _)).more hs),(b1.trans d2).later (ah w2 (ur y))⟩
theorem IL(hc:iQ dK u=false)(n:Nat)(hn:n<=64)(ρ:dr)(w:World)(h:ρ.at w (.good (u::r)) false):
  ar 140 #[ρ.ptr,af n] w λ e w'=>e=.returned (.bool false)/\eE ρ w w' (.good (u::r)) false:=by have hh:(cj.good (u::r)).head dK=false:=hc;have:=FL ρ w _ false h n WC;rw[hh,iZ hh,show(false || decide (64 < n))=false by simp;omega] at this;exact this
theorem C4(hc:iQ dK u=true)(n:Nat)(hn:n<=64)(ρ:dr)(w:World)(h:ρ.at w (.good (u::r)) false):
  ar 140 #[ρ.ptr,af n] w λ e w'=>e=.returned (.bool true)/\eE ρ w w' (.good r) false:=by have hh:(cj.good (u::r)).head dK=true:=hc;have:=FL ρ w _ false h n WC;rw[hh,jR hh,show(false || decide (64 < n))=false by simp;omega] at this;exact this
theorem UZ(hc:iQ dK u=false)(H:cP 0 l x (u::r))(ρ:dr)(w:World)(h:ρ.at w (.good l) false):ar 179 #[ρ.ptr] w (SlW ρ w [x] (u::r)):=by
 have ee:=h.FK;have HM:=aa (λ ρ w h=>IL (r:=r) hc 1 WC ρ w h);have HH:=aa H;clear hc H;go_enter Tryz.func179,Tryz.ntmps179;go_wp2_with fail;refine(HH.ae ρ _ h).mono ?_;rintro e w2 ⟨y,rfl,ht,d2⟩;unfold mA bH;have hs2:=d2.size;go_wp2_with fail;have HD:=aa (d2.later (ah w2 (ur y)));have HX:=aa (aB.new w2 46 (bH y).toArray);have HT:=aa (ht.later (ah w2 (ur y)));unfold ur bH at HD HX HT;clear ht d2;generalize hW3:w2.alloc _=W3 at*;generalize w2.heap.size=g at*;clear hW3;go_loopg [3] 0 (λ k v wr=>v=aH g 1 1/\wr=W3);case atStart=>exact Zfy
 case round=>obtain⟨hv,rfl⟩:=hrel;subst hv;go_wp2_with fail;refine(HM.ae ρ _ HD.ae.at_).mono ?_;rintro e w4 ⟨rfl,d4⟩;go_wp2_with fail;go_ret;have hX:=d4.blk HX.ae WC;exact⟨⟨some ⟨g,0,none⟩,1,1⟩,rfl,C1 hX ⟨hs2,hX.lt⟩ (HT.ae.grown d4.grown WC),HD.ae.trans d4⟩
def ElW(E:El α)(val:E.β->Value)(ρ:dr)(W:World)(x:α)(r:dG)(e:Ending)(w':World):Prop:=∃y:E.β,e=.returned (val y)/\E.rel w' (jg W.heap.size w') x y/\eE ρ W w' (.good r) false
theorem Pw{k:Wd} (hk:iQ OQ k=true)(H:cP 0 l x (k::r))(ρ:dr)(w:World)(h:ρ.at w (.good l) false):ar 180 #[ρ.ptr] w (ElW sH orV ρ w (x,true) r):=by
 have HK:=aa hk;have HH:=aa H;clear hk H;have ee:=h.FK;have hb:=ah w orZ;have h0:=h.later hb;have HQ:=aa (aB.new w 117 #[ag 0,ag 0,af 0,au,au,af 0,az,.bool false]);have hsz:(w.alloc orZ).heap.size=w.heap.size+1:=by simp
 unfold orZ at*;go_enter Tryz.func180,Tryz.ntmps180;go_wp2_with fail;refine(HH.ae ρ _ h0).mono ?_;rintro e w2 ⟨y,rfl,ht,d2⟩;unfold mA bH;have hs2:=d2.size;go_wp2_with fail;have D3:=((eE.cW h hb).trans d2).later (ah w2 (.cells (C2 (y,false)).toArray 117));have HX:=aB.new w2 117 (C2 (y,false)).toArray;have mZ:=(d2.blk HQ.ae WC).alloc (.cells (C2 (y,false)).toArray 117);have htx:=Tr.at_.keep (OV (.cells (C2 (y,false)).toArray 117) (show w.heap.size+1<=_ by omega)) _ _ ht;have hs3:(w2.alloc (.cells (C2 (y,false)).toArray 117)).heap.size=w2.heap.size+1:=by simp
 unfold C2 bH at D3 HX mZ htx hs3;simp only[cons_append,nil_append] at D3 HX mZ htx hs3;generalize w2.alloc _=W3 at*;have hm:=nV ρ W3 _ false D3.at_ ⟨#[100,101,115,99]⟩ HK.ae;clear h0 hb HQ ht d2;refine hm.mono ?_;rintro e w4 ⟨rfl,d4⟩;have Aw:=d4.blk HX WC;have hx2:=HX.lt;have DR:=Aw.aT 7 (.bool true);simp only[setIfInBounds_toArray,set_cons_zero,set_cons_succ] at DR;have hxf:=Aw.frozen 7;have hxc:=Aw.cell 7;have C5:=(d4.blk mZ WC).far (p:=⟨w2.heap.size,7,none⟩) Tac (.bool true);have D6:=(D3.trans d4).far ee (show w.heap.size<=w2.heap.size by omega) 7 (.bool true);have xa:=aa (Tr.at_.keep (OU (Nat.le_refl _)) _ _ (Tr.at_.keep (Zn 7 (.bool true)) _ _ (Tr.at_.keep (vX d4.grown WC) _ _ htx)));have Xo:=aa D6;have Pq:=aa C5;obtain⟨x0,x1,x2,x3,x4,x5,x6,x7⟩:=dw DR;obtain⟨y0,y1,y2,y3,y4,y5,y6,y7⟩:=dw C5;obtain⟨z0,z1,z2,z3,z4,z5,z6,z7⟩:=lB C5;clear Aw DR C5 HX mZ D3 d4 hm D6 hx2;go_wp2_with fail;have HP:=LG Pq.ae y (.bool true);have HR:=dw HP;unfold ux dW at HR;obtain⟨r0,r1,r2,r3,r4,r5,r6,r7⟩:=HR;refine bodyPost_ret (v:=orV (y,true)) ?_ rfl ?_
 ·simp[results,Tryz.results180,go_sem,r0,r1,r2,r3,r4,r5,r6,r7];rfl
 ·exact⟨(y,true),rfl,⟨(xa.ae.ux (Nat.lt_succ_self _) y (.bool true)).more WC,rfl⟩,Xo.ae.ux ee (Nat.le_refl _) y (.bool true)⟩
theorem Cf{k:Wd} (hk:iQ abK k=false)(H:cP 0 l x (k::r))(ρ:dr)(w:World)(h:ρ.at w (.good l) false):ar 178 #[ρ.ptr] w (ElW ry itV ρ w (x,ByteArray.empty) (k::r)):=by
 have HK:=aa hk;have HH:=aa H;clear hk H;have ee:=h.FK;have hb:=ah w itZ;have h0:=h.later hb;have HQ:=aa (aB.new w 48 #[ag 0,ag 0,af 0,au,au,af 0,az,au]);have hsz:(w.alloc itZ).heap.size=w.heap.size+1:=by simp
 unfold itZ at*;go_enter Tryz.func178,Tryz.ntmps178;go_wp2_with fail;refine(HH.ae ρ _ h0).mono ?_;rintro e w2 ⟨y,rfl,ht,d2⟩;unfold mA bH;have hs2:=d2.size;go_wp2_with fail;have D3:=((eE.cW h hb).trans d2).later (ah w2 (.cells (SF (y,⟨#[]⟩)).toArray 48));have HX:=aB.new w2 48 (SF (y,⟨#[]⟩)).toArray;have mZ:=(d2.blk HQ.ae WC).alloc (.cells (SF (y,⟨#[]⟩)).toArray 48);have ht3:=(ht.later (ah w2 (.cells (SF (y,⟨#[]⟩)).toArray 48))).more (B':=w.heap.size+1) WC;unfold SF bH at D3 HX mZ ht3;simp only[cons_append,nil_append] at D3 HX mZ ht3;generalize w2.alloc _=W3 at*;have hm:=cq ρ W3 _ false D3.at_ ⟨#[97,115]⟩ HK.ae;clear h0 hb HQ ht d2;refine hm.mono ?_;rintro e w4 ⟨rfl,d4⟩;have DR:=d4.blk HX WC;have C5:=d4.blk mZ WC;have HT4:=aa (ht3.grown d4.grown WC);have HD4:=aa (D3.trans d4);have Pq:=aa C5;obtain⟨x0,x1,x2,x3,x4,x5,x6,x7⟩:=dw DR;obtain⟨y0,y1,y2,y3,y4,y5,y6,y7⟩:=dw C5;obtain⟨z0,z1,z2,z3,z4,z5,z6,z7⟩:=lB C5;clear DR C5 HX mZ ht3 D3 d4 hm;go_wp2_with fail;have HP:=LG Pq.ae y (au);have HR:=dw HP;unfold ux dW at HR;obtain⟨r0,r1,r2,r3,r4,r5,r6,r7⟩:=HR;refine bodyPost_ret (v:=itV (y,⟨#[]⟩)) ?_ rfl ?_
 ·simp[results,Tryz.results178,go_sem,r0,r1,r2,r3,r4,r5,r6,r7];rfl
 ·exact⟨(y,⟨#[]⟩),rfl,⟨(HT4.ae.ux (Nat.lt_succ_self _) y (au)).more WC,rfl⟩,HD4.ae.ux ee (Nat.le_refl _) y (au)⟩
section
variable {σ:cj}
end
section
variable {α β:Type} {P k:Ps α} {σ yT:cj} {p:Ps β} {f:β->Ps α} {x:β} {z:α}
end
section
variable {α β γ:Type}
end
section
variable {α β:Type} {n:Nat} {p:Ps α} {Q Q':α->Prop} {R:β->Prop}
end
section
variable {n:Nat}
end
def acd (t:Wd):Prop:=(0<=t.n/\t.n<=9223372036854775807)/\(t.k=4->t.s∈signs)
variable{rest:List UInt8}
theorem ace{r:List UInt8} {w:Wd}(h:ia r=.ok (w,rest)):acd w:=by
 match r with
 | []=>cases h
 | c::r=>
   simp only[ia] at h;split at h
   ·exact Ze9
   split at h
   ·split at h
    ·rename_i hb;injection h with h;injection h with h1 h2;subst h1;refine⟨?_,λ e=>by simp at e⟩;simp only[Bool.and_eq_true,vU,decide_eq_true_eq] at hb;have:=hb.1.2;simp only;omega
    ·cases h
   split at h
   ·exact Ze9
   ·split at h
    ·rename_i s hs;injection h with h;injection h with h1 h2;subst h1;exact⟨⟨by simp,by simp⟩,λ _=>(ru hs).1⟩
    ·cases h
theorem LM (n:Nat):∀(f:Nat) (r:List UInt8) (l:List rp),xC n f r=.ok l->(∃b,l=b++ [⟨⟨0,[],0⟩,n⟩])/\l.length<=r.length+1/\∀t∈l,acd t.w
 | 0,r,l,h=>by cases h
 | f+1,r,l,h=>by
   have hle:=kj false r;simp only[xC] at h;split at h
   ·injection h with h;subst h;exact⟨⟨[],rfl⟩,by simp,λ t ht=>by simp at ht;subst ht;exact⟨⟨by simp,by simp⟩,λ e=>by simp at e⟩⟩
   ·rename_i c r' hsk;rw[hsk] at hle;split at h
    ·cases h
    ·rename_i w rest ho;have hlt:=Ao ho;split at h
     ·cases h
     ·rename_i l' hl';injection h with h;subst h;obtain⟨⟨b,hb⟩,h1,h2⟩:=LM n f rest l' hl';refine⟨⟨⟨w,_⟩::b,by rw[hb];rfl⟩,by simp only[length_cons] at hlt hle ⊢;omega,λ t ht=>?_⟩;rcases List.mem_cons.1 ht with rfl | ht
      ·exact ace ho
      ·exact h2 t ht
theorem SH{s:List UInt8} {l:List rp}(h:zK s=.ok l):(∃b n,l=b++ [⟨⟨0,[],0⟩,n⟩])/\l.length<=4097/\∀t∈l,acd t.w:=by
 unfold zK at h;split at h
 ·cases h
 ·rename_i hs;obtain⟨⟨b,hb⟩,h1,h2⟩:=LM _ _ _ _ h;exact⟨⟨b,_,hb⟩,by omega,h2⟩
theorem Vc{s:List UInt8} {l:List rp}(h:zK s=.ok l):yP (l.map (·.w)):=by obtain⟨⟨b,n,rfl⟩,_⟩:=SH h;exact⟨b.map (·.w),⟨0,[],0⟩,by simp,rfl⟩
theorem FP:(Tryz.prog.info? 48).map (λ i=>(i.zero,i.size,i.bytes))=some (some (.agg #[ag 0,ag 0,af 0,au,au,af 0,az,au]),8,104):=by exact Zgx
def aeW(E:El α)(lng:α->Bool)(ρ:dr)(p:Ps α)(σ:cj)(big:Bool)(y:E.β)(w w':World):Prop:=∃x:α,E.rel w' (jg w.heap.size w') x y/\eE ρ w w' (dn p σ) (big || lng x)/\km p σ x
variable{lng:α->Bool}{w0 w1 gF w2:World}{acc:List α}
theorem Px{p:Ps α}       {y:E.β}(hB:w0.heap.size<=B)(hg:ρ.g < w0.heap.size)(hR:kr E T wr B v acc)(hBr:B<=wr.heap.size)(hD:eE ρ w0 wr σ big)(ft:ai wr w1)(hp:aeW E lng ρ p σ big y w1 gF)(hl2:ai gF w2)(bJ:w2.grownBy W v.ownBlock)
  (ys:List E.β) (Lk:aI E.f T E.size W B v' (ys++ [y])) (hys:mD (E.rel wr (xR B v wr)) acc ys) (hv:v'.ownBlock=v.ownBlock\/v'.ownBlock=some w2.heap.size):
  ∃x:α,kr E T W B v' (acc++ [x])/\eE ρ w0 W (dn p σ) (big || lng x)/\km p σ x:=by
 obtain⟨x,hx,hd,Xp⟩:=hp;have hgB:ρ.g < B:=by omega
 have own:∀G,v.ownBlock=some G->B<=G/\G < wr.heap.size:=λ G hG=>hR.Pu hG
 refine⟨x,⟨ys++ [y],Lk,mD.append ?_ (.one ?_)⟩,?_,Xp⟩
 ·exact hys.imp λ a b hab=>E.keep (Ce bJ hv) (E.keep (pA hl2) (E.keep (pz hd.grown hgB) (E.keep (pA ft) hab)))
 ·refine E.keep (Ce bJ hv) (E.keep (C3 (B:=w1.heap.size) (B':=B) (Nat.le_trans hBr ft.size) λ G hG=>?_) (E.keep (iP hl2) hx));exact Nat.lt_of_lt_of_le (own G hG).2 ft.size
 ·exact(((hD.later ft).trans hd).later hl2).own hg bJ λ G hG=>by have:=(own G hG).1;omega
theorem LN(hq:q < B)(i:Nat)(u:Value):∀b,xR B v w b->(∀o,(w.setCell ⟨q,i,none⟩ u).cell? ⟨b,o,none⟩=w.cell? ⟨b,o,none⟩)/\xR B v (w.setCell ⟨q,i,none⟩ u) b:=λ b hb=>
 ⟨cell_of_heap (Below.heap_setCell w ⟨q,i,none⟩ u b (by have:=hb.1;simp;omega)),hb.1,by simpa [World.setCell] using hb.2.1,hb.2.2⟩
theorem kr.far{l:List α}(h:kr E T w B v l)(hq:q < B)(i:Nat)(u:Value):kr E T (w.setCell ⟨q,i,none⟩ u) B v l:=by
 have vt:=λ G hG=>(h.Pu (G:=G) hG).1
 obtain⟨ys,h1,h2⟩:=h.has;exact⟨ys,h1.keep λ g hg=>Below.heap_setCell w ⟨q,i,none⟩ u g (by have:=vt g hg;simp;omega),h2.imp λ x y=>E.keep (LN hq i u)⟩
def quZ:Obj:=.cells #[az,au,.bool false,az,az,az,az,az] 27
theorem Py:(Tryz.prog.info? 117).map (λ i=>(i.zero,i.size,i.bytes))=some (some (.agg #[ag 0,ag 0,af 0,au,au,af 0,az,.bool false]),8,96):=by exact Zgx
def zR (w:World)(q:Nat)(m:xQ):World:=(((((((w.setCell ⟨q,0,none⟩ (nL m.items)).setCell ⟨q,1,none⟩ (.string m.bT)).setCell ⟨q,2,none⟩ (.bool m.only)).setCell ⟨q,3,none⟩ (nL m.cD)).setCell ⟨q,4,none⟩ (nL m.group)).setCell ⟨q,5,none⟩ (nL m.having)).setCell ⟨q,6,none⟩ (nL m.order)).setCell ⟨q,7,none⟩ (nL m.dv)
theorem LO{a b i:Value}(h:aB w q T #[a,b,c,d,e,f,g,i])(m:xQ):aB (zR w q m) q T (LF m).toArray:=by have:=(((((((h.aT 0 (nL m.items)).aT 1 (.string m.bT)).aT 2 (.bool m.only)).aT 3 (nL m.cD)).aT 4 (nL m.group)).aT 5 (nL m.having)).aT 6 (nL m.order)).aT 7 (nL m.dv);exact ZdK
theorem eE.zR(h:eE ρ W w σ big)(hW:ρ.g < W.heap.size)(hq:W.heap.size<=q)(m:xQ):eE ρ W (zR w q m) σ big:=
 (((((((h.far hW hq 0 _).far hW hq 1 _).far hW hq 2 _).far hW hq 3 _).far hW hq 4 _).far hW hq 5 _).far hW hq 6 _).far hW hq 7 _
variable{m:xQ}
theorem Qu.at_.zR{d:Qu} (h:d.at_ w (jg B w) m)(hq:q < B)(m':xQ):d.at_ (zR w q m') (jg B (Go.Proofs.YtndgjggokjickaaGreatDoor.R.zR w q m')) m:=by
 have s:=λ(w:World) (h:d.at_ w (jg B w) m) (i:Nat) (u:Value)=>Qu.at_.keep (sI (w:=w) hq i u) h
 exact s _ (s _ (s _ (s _ (s _ (s _ (s _ (s _ h 0 _) 1 _) 2 _) 3 _) 4 _) 5 _) 6 _) 7 _
theorem acf{k:Int}(h:aB w G 2 #[af k])(hS:S G):Sb.sl w S ⟨some ⟨G,0,none⟩,1,1⟩ [k]:=
 ⟨rfl,[k],OW (f:=λ k:Int=> [Value.int .i64 k]) (λ _=>rfl) h hS,.one rfl⟩
section
variable {ρ:dr} {w wr w2:World} {big:Bool} {σ yT:cj} {m:xQ} {d:Qu}
end
inductive acg (s:List UInt8):dG->List Tr->dG->Prop
 | none {l:dG} (h:dH s l=false):acg s l [] l
 | some {k:Wd} {l r:dG} {x:Tr} (h:iQ s k=true) (H:cP 0 l x r):acg s (k::l) [x] r
inductive uy:dG->List (Tr×ByteArray)->dG->Prop
 | one {l r:dG} {u:Wd} {x:Tr} (H:cP 0 l x (u::r)) (ha:iQ abK u=false) (hc:iQ dK u=false):uy l [(x,ByteArray.empty)] (u::r)
 | cons {l l2 r:dG} {c:Wd} {x:Tr} {xs:List (Tr×ByteArray)} (H:cP 0 l x (c::l2)) (ha:iQ abK c=false) (hc:iQ dK c=true) (h:uy l2 xs r):uy l ((x,ByteArray.empty)::xs) r
inductive SJ:dG->List (Tr×ByteArray)->dG->Prop
 | done {r:dG} {u:Wd} (hc:iQ dK u=false):SJ (u::r) [] (u::r)
 | more {l r:dG} {c:Wd} {xs:List (Tr×ByteArray)} (hc:iQ dK c=true) (h:uy l xs r):SJ (c::l) xs r
variable{xs:List (Tr×ByteArray)}
theorem uy.first(h:uy l xs r):∃(x:Tr) (ys:List (Tr×ByteArray)) (c:Wd) (l2:dG),xs=(x,ByteArray.empty)::ys/\cP 0 l x (c::l2)/\iQ abK c=false/\SJ (c::l2) ys r:=by
 cases h with
 | one H ha hc=>exact⟨_,_,_,_,rfl,H,ha,.done hc⟩
 | cons H ha hc h=>exact⟨_,_,_,_,rfl,H,ha,.more hc h⟩
inductive aho:dG->List Tr->dG->Prop
 | none {l:dG} (h:dH Ar l=false):aho l [] l
 | some {k b u:Wd} {l r:dG} {x:Tr} (h:iQ Ar k=true) (hb:iQ OO b=true) (hc:iQ dK u=false) (H:cP 0 l x (u::r)):aho (k::b::l) [x] (u::r)
inductive ahp:dG->List (Tr×Bool)->dG->Prop
 | none {l:dG} (h:dH Ip l=false):ahp l [] l
 | some {k b d u:Wd} {l r:dG} {x:Tr} (h:iQ Ip k=true) (hb:iQ OO b=true) (hd:iQ OQ d=true) (hc:iQ dK u=false) (H:cP 0 l x (d::u::r)):ahp (k::b::l) [(x,true)] (u::r)
inductive ahq:dG->List Int->dG->Prop
 | none {l:dG} (h:dH Iq l=false):ahq l [] l
 | some {k n:Wd} {r:dG} (h:iQ Iq k=true) (hn:n.k=2):ahq (k::n::r) [n.n] r
structure Xq (ρ:dr) (w wr:World) (l:dG) (m:xQ) (d:Qu):Prop where
 did:eE ρ w wr (.good l) false
 blk:aB wr (w.heap.size+1) 27 (LF m).toArray
 res:aB wr w.heap.size 27 #[az,au,.bool false,az,az,az,az,az]
 at_:d.at_ wr (jg (w.heap.size+2) wr) m
section
variable {ρ:dr} {w wr w2:World} {l r:dG} {m:xQ} {d:Qu}
theorem Xq.later (A:Xq ρ w wr l m d)(hb:aj wr w2):Xq ρ w w2 l m d:=
 ⟨A.did.later hb,A.blk.later hb,A.res.later hb,Qu.at_.keep (iP hb) A.at_⟩
theorem Xq.Em (A:Xq ρ w wr l m d)(hg:ρ.g < w.heap.size)(dd:eE ρ wr w2 (.good r) false):Xq ρ w w2 r m d:=
 ⟨A.did.trans dd,dd.blk A.blk WC,dd.blk A.res WC,Qu.at_.keep (lK dd.grown WC) A.at_⟩
theorem Xq.set {m':xQ} {d':Qu}(A:Xq ρ w wr l m d)(hg:ρ.g < w.heap.size)(i:Nat)(u:Value)(hb:(LF m').toArray=(LF m).toArray.setIfInBounds i u)(hat:Qu.at_ wr (jg (w.heap.size+2) wr) d' m'):Xq ρ w (wr.setCell ⟨w.heap.size+1,i,none⟩ u) l m' d':=by refine⟨A.did.far hg WC i u,?_,A.res.far (p:=⟨w.heap.size+1,i,none⟩) Tad u,Qu.at_.keep (sI WC i u) hat⟩;rw[hb];exact A.blk.aT i u
end
def amD(x:α)(r:dG):Ps α:=λ _=> .ok (x,r)
structure PuA {α:Type} (E:El α) (T:TypeId) (ρ:dr) (w wr:World) (l:dG) (k:Nat) (v:Value) (acc:List α) (cs:List Value) (m:xQ) (d:Qu):Prop where
 row:kr E T wr (w.heap.size+2) v acc
 did:eE ρ w wr (.good l) false
 blk:aB wr (w.heap.size+1) 27 cs.toArray
 res:aB wr w.heap.size 27 #[az,au,.bool false,az,az,az,az,az]
 at_:d.at_ wr (xR (w.heap.size+2) v wr) m
 cel:cs[k]?=some v
theorem PuA.Em{cs:List Value}  {d:Qu}(A:PuA E T ρ w wr l k v acc cs m d)(hg:ρ.g < w.heap.size)(dd:eE ρ wr w2 (.good r) false):PuA E T ρ w w2 r k v acc cs m d:=
 ⟨A.row.grown dd.grown WC,A.did.trans dd,dd.blk A.blk WC,dd.blk A.res WC,Qu.at_.keep (pz dd.grown WC) A.at_,A.cel⟩
variable{m':xQ}{d':Qu}
theorem PuA.done{cs:List Value}  {d:Qu}(A:PuA E T ρ w wr l k v acc cs m d)(hm:(LF m').toArray=cs.toArray)(hat:Qu.at_ wr (jg (w.heap.size+2) wr) d' m'):Xq ρ w wr l m' d':=
 ⟨A.did,hm▸A.blk,A.res,hat⟩
variable{val:E.β->Value}{z:Value}{bytes:Nat}{Q:Exit->Act->World->Prop}{a0:Act}{rid:Nat}{o0 o1 o2 o3 o4 o5 o6 o7:Oper}{d4 d5 d6:Tmp}{F:FuncId}
theorem Pz{x:α}  {lv:Value}  {cs:List Value}  {d:Qu}     {q d0 d1 d2 d3:Tmp} (t ty:TypeId)
  (A:PuA E T ρ w wr l k lv acc cs m d) (ee:ρ.g < w.heap.size) (hn:acc.length<=64) (hby:bytes<=1000)
  (hc:∀w',ρ.at w' (.good l) false->ar F #[ρ.ptr] w' (ElW E val ρ w' x r))
  (aZ:dM [o0,o1,o2,o3,o4,o5,o6] a0.tmps.size [o0,o1,o2,o3,o4,o5,o6] 0=true) (hz:eI [o0,o1,o2,o3,o4,o5,o6,o7] [o7] 7=true) (hch:lx [o0,o1,o2,o3,o4,o5,o6] [3,4,5]=true) (BX:BW o0 o1 o2 o3 o4 o5 o6 q d0 d1 d2 d3 d4 d5 d6=true)
  (hq:a0.eval (.tmp q)=aw (w.heap.size+1)) (h0:a0.eval (.tmp 0)=ρ.ptr)
  (hfa:∀ρ' w',ρ' (.tmp q)=aw (w.heap.size+1)->(execOp ρ' o0).run Tryz.prog w'=.ok (.value (bh (w.heap.size+1) k)) w')
  (ZO:∀ρ' w',ρ' (.tmp q)=aw (w.heap.size+1)->(execOp ρ' o6).run Tryz.prog w'=.ok (.value (bh (w.heap.size+1) k)) w')
  (Z9:∀ρ' w',ρ' (.tmp d0)=bh (w.heap.size+1) k->w'.cell? ⟨w.heap.size+1,k,none⟩=some lv->(execOp ρ' o1).run Tryz.prog w'=.ok (.value lv) w')
  (Ei:∀ρ' w',ρ' (.tmp 0)=ρ.ptr->(execOp ρ' o2).run Tryz.prog w'=.ok (.value ρ.ptr) w')
  (cf:∀ρ' w',oC ρ'->ρ' (.tmp d2)=ρ.ptr->(execOp ρ' o3).run Tryz.prog w'=.ok (.enter F #[ρ.ptr]) w')
  (JJ:∀ρ' w' y,ρ' (.tmp d3)=val y->(execOp ρ' o4).run Tryz.prog w'=.ok (.value (aH w'.heap.size 1 1)) (w'.alloc (.cells (E.f y).toArray T)))
  (hap:∀ρ' w' s v' ZP,ρ' (.tmp d1)=lv->ρ' (.tmp d4)=s->(Builtin.append_ #[t,t] ty #[lv,s]).run Tryz.prog w'=.ok v' ZP->(execOp ρ' o5).run Tryz.prog w'=.ok (.value v') ZP)
  (ht:Tryz.prog.underlying t=some (.slice T)) (jm:(Tryz.prog.info? T).map (λ i=>(i.zero,i.size,i.bytes))=some (some z,E.size,bytes)) (hzs:z.cells.size=E.size) (hsz:0 < E.size) (hf:∀x,(E.f x).length=E.size) (h1:∀y,∀u∈E.f y,u.oneCell'=true)
  (mh:∀y s v' W,PuA E T ρ w (W.setCell ⟨w.heap.size+1,k,none⟩ v') r k v' (acc++ [x]) (cs.set k v') m d->W.cell? ⟨w.heap.size+1,k,none⟩=some lv->W.frozen? ⟨w.heap.size+1,k,none⟩=false->
    wpList Tryz.prog [o0,o1,o2,o3,o4,o5,o6,o7].toArray Q [o7] (((((((a0.put (some d0) (bh (w.heap.size+1) k)).put (some d1) lv).put (some d2) ρ.ptr).put (some d3) (val y)).put (some d4) s).put (some d5) v').put (some d6) (bh (w.heap.size+1) k)) W):
  (Code.region rid [o0,o1,o2,o3,o4,o5,o6,o7].toArray true).wp Tryz.prog Q a0 wr:=by
 obtain⟨ys,ho,ha⟩:=A.row.has;have hyl:ys.length=acc.length:=ha.len;have how:=λ G hG=>A.row.Pu (G:=G) hG
 have hwr:=A.blk.lt;refine IK (P:=Tryz.prog) (f:=E.f) (val:=val) (e:=T) (size:=E.size) (base:=w.heap.size+2) (l:=ys) (lv:=lv) (Post:=aeW E (λ _=>false) ρ (amD x r) (.good l) false) (w0:=wr) (qb:=w.heap.size+1) (k:=k) (g:=ρ.g) (ptr:=ρ.ptr) (F:=F) (args:= #[ρ.ptr]) t ty z bytes Taa aZ hz hch BX hq h0 hfa ZO Z9 Ei cf JJ hap ht jm hzs hsz hf h1 ho ((A.blk.cell k).trans (by simpa using A.cel)) WC (λ e'=>by have:=(how _ e').1;omega) (λ e'=>by have:=(how _ e').1;omega) (Nat.le_trans (Nat.mul_le_mul (show _<=65 by omega) hby) Tab) WC WC ?_ ?_ ?_
 ·intro w' hw';refine(hc w' (A.did.at_.later hw')).mono ?_;rintro e w'' ⟨y,rfl,hx,hd⟩;exact⟨y,rfl,x,hx,by rw[Bool.or_false];exact hd,rfl⟩
 ·rintro y w' w'' ⟨x,hx,hd,hv⟩;exact hd.grown
 ·intro y s v' w4 w4' w5 W ft hp hl2 Y3 bJ Lk NJ Ej;obtain⟨_,_,dd,_⟩:=id hp;have hs1:=ft.size;have hs2:=dd.size;have hs3:=hl2.size;obtain⟨x',hgr,hdd,Xp⟩:=Px (E:=E) (T:=T) (lng:=λ _=>false) (B:=w.heap.size+2) (acc:=acc) WC ee A.row WC A.did ft hp hl2 bJ ys Lk ha NJ;obtain rfl:x'=x:=Xp;have hnq:∀(q:Nat),q < w.heap.size+2->some q≠lv.ownBlock:=λ q hq e'=>by have:=(how q e'.symm).1;omega
  have HX:=(((A.blk.later ft).grown dd.grown Tac).later hl2).grown bJ (hnq _ WC);have HR:=(((A.res.later ft).grown dd.grown Tac).later hl2).grown bJ (hnq _ WC);have kG:=HX.aT k v';simp only[setIfInBounds_toArray] at kG;refine mh y s v' W ⟨hgr.far WC k v',by have:=hdd.far ee (show w.heap.size<=w.heap.size+1 by omega) k v';rwa [Bool.or_false] at this,kG,HR.far (p:=⟨w.heap.size+1,k,none⟩) Tad v',Qu.at_.keep (LN (show w.heap.size+1 < w.heap.size+2 by omega) k v') (Qu.at_.keep (Ce bJ NJ) (Qu.at_.keep (pA hl2) (Qu.at_.keep (pz dd.grown WC) (Qu.at_.keep (pA ft) A.at_)))),?_⟩ Ej (HX.frozen k);have:=A.cel;rw[getElem?_set_self (by rcases Nat.lt_or_ge k cs.length with h | h;exact h;rw[getElem?_eq_none h] at this;cases this)]
end Go.Proofs.YtndgjggokjickaaGreatDoor.R
