/- Parts of the proof. -/
import Derived.Test.YtehhdlgjfdnafaaGreatDoorXE8
namespace Go.Proofs.YtehhdlgjfdnafaaGreatDoor
variable{p:Prop}
set_option maxHeartbeats 90000000
set_option maxRecDepth 100000
open Go.Lib (hid)
open Go.ChangeShapes Go.WideShapes Go.ChangeAt Go.RowKit List
set_option linter.unusedVariables false
set_option linter.unusedSimpArgs false
structure bj where
 g:Nat
 gl:Nat
 c:Nat
 yD:List mA
def bj.n (ρ:bj):Nat:=ρ.yD.length
def bj.ws (ρ:bj):aF:=ρ.yD.map (·.w)
def bj.bad (ρ:bj):dO->Int
 | .good _=> -1
 | .bad m=>(ρ.n:Int) - m
def bj.cells (ρ:bj)(σ:dO)(big:Bool):Array Value:= #[.slice (some ⟨ρ.gl,0,none⟩) ρ.n ρ.c,.int .i64 ((ρ.n:Int) - σ.left),.int .i64 (ρ.bad σ),.bool big]
structure bj.at (ρ:bj) (w:World) (σ:dO) (big:Bool):Prop where
 blk:av w ρ.g 125 (ρ.cells σ big)
 lt:ρ.gl < ρ.g
 cell:∀k t,ρ.yD[k]?=some t->w.cell? ⟨ρ.gl,k*4,none⟩=some (.int .u8 t.w.k)/\w.cell? ⟨ρ.gl,k*4+1,none⟩=some (.string ⟨t.w.s.toArray⟩)/\w.cell? ⟨ρ.gl,k*4+2,none⟩=some (.int .i64 t.w.n)/\w.cell? ⟨ρ.gl,k*4+3,none⟩=some (.int .i64 t.p)
 of:σ.of ρ.ws
 small:ρ.n<=5000
 yE:∀t∈ρ.yD,0<=t.w.n/\t.w.n<=9223372036854775807
section
variable {ρ:bj} {w w':World} {σ:dO} {big:Bool}
theorem bj.at.later (h:ρ.at w σ big)(hb:Below w.heap.size w w'):ρ.at w' σ big:=
 ⟨h.blk.later hb,h.lt,λ k t hk=>by
   have hl:ρ.gl < w.heap.size:=Nat.lt_trans h.lt h.blk.lt
   have c:=λ o=>hb.cell (p:=⟨ρ.gl,o,none⟩) hl
   obtain⟨h1,h2,h3,h4⟩:=h.cell k t hk
   exact⟨(c _).trans h1,(c _).trans h2,(c _).trans h3,(c _).trans h4⟩,h.of,h.small,h.yE⟩
theorem bj.at.mE (h:ρ.at w σ big):ρ.g < w.heap.size:=h.blk.lt
theorem bj.at.set {Dr:dO} {KG:Bool}(h:ρ.at w σ big)(hw:av w' ρ.g 125 (ρ.cells Dr KG))(hg:w.grownBy w' (some ρ.g))(ho:Dr.of ρ.ws):ρ.at w' Dr KG:=
 ⟨hw,h.lt,λ k t hk=>by
   have hl:ρ.gl < w.heap.size:=Nat.lt_trans h.lt h.blk.lt
   have c:=cell_of_heap (hg.block ρ.gl hl (λ e=>by injection e with e;have:=h.lt;omega))
   obtain⟨h1,h2,h3,h4⟩:=h.cell k t hk
   exact⟨(c _).trans h1,(c _).trans h2,(c _).trans h3,(c _).trans h4⟩,ho,h.small,h.yE⟩
theorem bj.at.left (h:ρ.at w σ big):0 < σ.left/\σ.left<=ρ.n:=by have:=dO.ER h.of;simpa [bj.ws,bj.n] using this
theorem bj.at.far {q:Nat}(h:ρ.at w σ big)(hq:ρ.g < q)(i:Nat)(u:Value):ρ.at (w.setCell ⟨q,i,none⟩ u) σ big:=
 ⟨h.blk.far (p:=⟨q,i,none⟩) Tad u,h.lt,λ k t hk=>by
   have c:=cell_of_heap (Below.heap_setCell w ⟨q,i,none⟩ u ρ.gl (by have:=h.lt;simp;omega))
   obtain⟨h1,h2,h3,h4⟩:=h.cell k t hk
   exact⟨(c _).trans h1,(c _).trans h2,(c _).trans h3,(c _).trans h4⟩,h.of,h.small,h.yE⟩
theorem bj.at.next (h:ρ.at w σ big):∃t:mA,ρ.yD[ρ.n - σ.left]?=some t/\(∀l,σ=.good l->∃r,l=t.w::r):=by
 obtain⟨h1,h2⟩:=h.left;have hlt:ρ.n - σ.left < ρ.yD.length:=by unfold bj.n at*;omega
 refine⟨_,getElem?_eq_getElem hlt,?_⟩;rintro l rfl;obtain⟨t,r,hl,hk⟩:=dO.of_next h.of;refine⟨r,?_⟩;have e:ρ.ws.length - l.length=ρ.n - (dO.good l).left:=by simp[bj.ws,bj.n,dO.left]
 exact Zdx
end
structure gP (ρ:bj) (W w':World) (Dr:dO) (KG:Bool):Prop where
 at_:ρ.at w' Dr KG
 grown:W.grownBy w' (some ρ.g)
section
variable {ρ:bj} {W w w':World} {σ Dr:dO} {big KG:Bool}
theorem gP.refl (h:ρ.at w σ big):gP ρ w w σ big:=⟨h,az (Below.refl _ _)⟩
theorem gP.aA (h:ρ.at w σ big)(hb:Below w.heap.size w w'):gP ρ w w' σ big:=⟨h.later hb,az hb⟩
theorem gP.later (h:gP ρ W w σ big)(hb:Below w.heap.size w w'):gP ρ W w' σ big:=⟨h.at_.later hb,ai h.grown (az hb)⟩
theorem gP.trans (h:gP ρ W w σ big)(k:gP ρ w w' Dr KG):gP ρ W w' Dr KG:=⟨k.at_,ai h.grown k.grown⟩
theorem gP.lt (h:gP ρ W w σ big):ρ.g < w.heap.size:=h.at_.mE
theorem gP.size (h:gP ρ W w σ big):W.heap.size<=w.heap.size:=h.grown.size
theorem gP.far {q:Nat}(h:gP ρ W w σ big)(hW:ρ.g < W.heap.size)(hq:W.heap.size<=q)(i:Nat)(u:Value):gP ρ W (w.setCell ⟨q,i,none⟩ u) σ big:=by exact Zcf
theorem gP.blk {q:Nat} {t:TypeId} {cs:Array Value}(h:gP ρ W w σ big)(hq:av W q t cs)(hg:q≠ρ.g):av w q t cs:=hq.grown h.grown λ e=>hg Ta3
end
def bj.ptr (ρ:bj):Value:=.pointer (some ⟨ρ.g,0,none⟩)
variable{ρ:bj}{w:World}{σ:dO}{big:Bool}
theorem bj.at.facts(h:ρ.at w σ big):
  w.cell? ⟨ρ.g,0,none⟩=some (.slice (some ⟨ρ.gl,0,none⟩) ρ.n ρ.c)/\w.cell? ⟨ρ.g,1,none⟩=some (.int .i64 ((ρ.n:Int) - σ.left))/\w.cell? ⟨ρ.g,2,none⟩=some (.int .i64 (ρ.bad σ))/\w.cell? ⟨ρ.g,3,none⟩=some (.bool big)/\
  w.frozen? ⟨ρ.g,1,none⟩=false/\w.frozen? ⟨ρ.g,2,none⟩=false/\w.frozen? ⟨ρ.g,3,none⟩=false:=
 ⟨h.blk.cell 0,h.blk.cell 1,h.blk.cell 2,h.blk.cell 3,h.blk.frozen 1,h.blk.frozen 2,h.blk.frozen 3⟩
theorem bj.at.place(h:ρ.at w σ big):((ρ.n:Int) - σ.left)=((ρ.n - σ.left:Nat):Int):=by have:=h.left;omega
theorem bj.at.MO(h:ρ.at w σ big):decide (ρ.bad σ < 0)=σ.nJ:=by
 have hl:=h.left
 match σ,hl with
 | .bad m,hl=>have e:ρ.bad (.bad m)=(ρ.n:Int) - m:=rfl;have e2:(dO.bad m).left=m:=rfl;rw[e2] at hl;rw[e];simp only[dO.nJ,decide_eq_false_iff_not];omega
 | .good l,_=>rfl
variable{s:ByteArray}
theorem Hq{t:Wd}:fW s.data.toList t=((t.k==1 || t.k==4)&&(t.s==s.toList)):=by unfold fW;rw[ByteArray.toList_eq]
def xh:Obj:=.cells #[.int .u8 0,.string ⟨#[]⟩,.int .i64 0,.int .i64 0] 81
def bV (t:mA):Array Value:= #[.int .u8 t.w.k,.string ⟨t.w.s.toArray⟩,.int .i64 t.w.n,.int .i64 t.p]
structure Xt (ρ:bj) (w:World) (t:mA) (pl:Nat) (bd:Int):Prop where
 c0:w.cell? ⟨ρ.g,0,none⟩=some (.slice (some ⟨ρ.gl,0,none⟩) ρ.n ρ.c)
 c1:w.cell? ⟨ρ.g,1,none⟩=some (.int .i64 pl)
 c2:w.cell? ⟨ρ.g,2,none⟩=some (.int .i64 bd)
 d0:w.cell? ⟨ρ.gl,pl*4,none⟩=some (.int .u8 t.w.k)
 d1:w.cell? ⟨ρ.gl,pl*4+1,none⟩=some (.string ⟨t.w.s.toArray⟩)
 d2:w.cell? ⟨ρ.gl,pl*4+2,none⟩=some (.int .i64 t.w.n)
 d3:w.cell? ⟨ρ.gl,pl*4+3,none⟩=some (.int .i64 t.p)
variable{w':World}{pl:Nat}{bd:Int}
theorem Xt.later{t:mA}  (h:Xt ρ w t pl bd)(hb:Below w.heap.size w w'):Xt ρ w' t pl bd:=by obtain⟨h0,h1,h2,h3,h4,h5,h6⟩:=h;exact⟨(hb.cell (bY h0)).trans h0,(hb.cell (bY h1)).trans h1,(hb.cell (bY h2)).trans h2,(hb.cell (bY h3)).trans h3,(hb.cell (bY h4)).trans h4,(hb.cell (bY h5)).trans h5,(hb.cell (bY h6)).trans h6⟩
theorem bj.at.lp(h:ρ.at w σ big):∃(t:mA) (pl:Nat) (bd:Int),pl=ρ.n - σ.left/\pl < ρ.n/\ρ.n<=5000/\bd=ρ.bad σ/\decide (bd < 0)=σ.nJ/\(∀l,σ=.good l->∃r,l=t.w::r)/\0<=t.w.n/\t.w.n<=9223372036854775807/\Xt ρ w t pl bd:=by obtain⟨t,ht,hg⟩:=h.next;obtain⟨d0,d1,d2,d3⟩:=h.cell _ t ht;obtain⟨c0,c1,c2,c3,f1,f2,f3⟩:=h.facts;have hl:=h.left;rw[h.place] at c1;have hn:=h.yE t (mem_of_getElem? ht);exact⟨t,_,_,rfl,by omega,h.small,rfl,h.MO,hg,hn.1,hn.2,c0,c1,c2,d0,d1,d2,d3⟩
theorem zgw.Kb0(h:p:=by
 go_enter Tryz.func126,Tryz.ntmps126;go_wp2_with fail;go_region;clear c0 c1 c2 d0 d1 d2 d3 y0 y1 y2 z0 z1 z2 z3 x0 x1 v0 v1 v2 v3;obtain⟨u0,u1,u2,u3,_⟩:=aI HT;unfold bV at x2 u0 u1 u2 u3 hb;generalize (w.alloc _).drew=W at*;go_wp2_with fail
 all_goals
  go_ret;refine⟨cP ?_,hb⟩;rw[uS.out];generalize (t.w.s==s.toList)=X;cases X <;> rw[Bool.eq_iff_iff] <;> simp <;> omega):p:=h
theorem xi (ρ:bj)(w:World)(σ:dO)(big:Bool)(h:ρ.at w σ big)(s:ByteArray):
  Calls Tryz.prog 126 #[ρ.ptr,.string s] w λ e w'=>e=.returned (.bool (σ.head s.data.toList))/\Below w.heap.size w w':=by
 obtain⟨t,pl,bd,hpl,hlt,hsm,yG,eY,hg,xY,uA,hp⟩:=h.lp;have Xu:=hp.later (aa w xh);have Q0:=hp.later ((aa w (.cells (bV t) 81)).drew)
 have hHD:σ.head s.data.toList=(decide (bd < 0)&&((t.w.k==1 || t.w.k==4)&&(t.w.s==s.toList))):=by
  rw[eY]
  match σ with
  | .bad m=>rfl
  | .good l=>obtain⟨r,rfl⟩:=hg l rfl;rw[<- Hq];rfl
 have uS:=hid hHD;have hb:=(aa w (.cells (bV t) 81)).drew;have HT:=(av.new w 81 (bV t)).drew;clear hHD hpl hg eY yG h;unfold bj.ptr;generalize σ.head s.data.toList=R at*;open zgw in exact Zek
def AB (ρ:bj)(W:World)(Dr:dO)(big:Bool)(e:Ending)(w':World):Prop:=e=.returned (.tuple #[])/\gP ρ W w' Dr big
theorem uB (ρ:bj)(w:World)(σ:dO)(big:Bool)(h:ρ.at w σ big):
  Calls Tryz.prog 78 #[ρ.ptr] w (AB ρ w (.bad σ.left) big):=by
 obtain⟨c0,c1,c2,c3,f1,f2,f3⟩:=h.facts;have rp:=h.left;have eY:=h.MO;have JL:dO.of ρ.ws (.bad σ.left):=⟨(dO.ER h.of).1,(dO.ER h.of).2⟩;unfold bj.ptr;by_cases hg:ρ.bad σ < 0
 ·have hB:=av.cr h.blk 2 (.int .i64 ((ρ.n:Int) - σ.left));go_enter Tryz.func78,Tryz.ntmps78;go_wp2_with fail;go_end0;exact⟨rfl,h.set hB (bn (az (Below.refl _ _)) 2 _) JL,bn (az (Below.refl _ _)) 2 _⟩
 ·have yG:σ=.bad σ.left:=by
   match σ with
   | .bad m=>rfl
   | .good l=>exact absurd (by show(-1:Int)< 0;decide) hg
  have HBD:=hid yG;clear yG;go_enter Tryz.func78,Tryz.ntmps78;go_wp2_with fail;go_end0;rw[<- HBD.out];exact⟨rfl,gP.refl h⟩
theorem bj.at.step {ρ:bj} {w:World} {l:aF} {t:Wd} {big:Bool}(h:ρ.at w (.good (t::l)) big)(ht:t.k≠0):
  gP ρ w (w.setCell ⟨ρ.g,1,none⟩ (.int .i64 ((ρ.n:Int) - l.length))) (.good l) big:=by exact ZcX
theorem rW (ρ:bj)(w:World)(σ:dO)(big:Bool)(h:ρ.at w σ big)(s:ByteArray):
  Calls Tryz.prog 77 #[ρ.ptr,.string s] w λ e w'=>e=.returned (.bool (σ.head s.data.toList))/\gP ρ w w' (eG (may s.data.toList) σ) big:=by
 have hw:=xi ρ w σ big h s;have AD:ρ.ptr=.pointer (some ⟨ρ.g,0,none⟩):=rfl;cases hh:σ.head s.data.toList
 ·rw[hh] at hw;rw[kA hh];go_enter Tryz.func77,Tryz.ntmps77;go_wp2_with (go_at_call 126;refine hw.mono ?_;rintro e w1 ⟨rfl,b1⟩);go_ret;exact⟨rfl,gP.aA h b1⟩
 ·rw[hh] at hw;obtain⟨t,r,rfl,ht⟩:=OX hh;rw[oT hh];go_enter Tryz.func77,Tryz.ntmps77;have HH:=hid h;have HK:=hid (Ai ht);have hsm:=h.small;clear ht hh h;go_wp2_with (go_at_call 126;refine hw.mono ?_;rintro e w1 ⟨rfl,b1⟩;obtain⟨c0,c1,c2,c3,f1,f2,f3⟩:=(HH.out.later b1).facts;have rp:=(HH.out.later b1).left;have e1:(ρ.n:Int) - (dO.good (t::r)).left+1=(ρ.n:Int) - r.length:=by(simp[dO.left];omega));go_ret;have hd:=bj.at.step (HH.out.later b1) HK.out;exact⟨rfl,(gP.aA HH.out b1).trans hd⟩
def aK (ks:List (List UInt8)):Array Value:=(ks.map strOf).toArray
variable{ks:List (List UInt8)}{i:Nat}
theorem xj{b:Nat} (h:av w b 9 (aK ks))  {s:List UInt8}(hi:ks[i]?=some s):w.cell? ⟨b,i,none⟩=some (.string ⟨s.toArray⟩):=by rw[h.cell i];simp[aK,hi,strOf]
variable{α:Type}{x:α}
theorem rX{l:List α}  (h:l[i]?=some x):l.drop i=x::l.drop (i+1):=by obtain⟨hlt,he⟩:=List.getElem?_eq_some_iff.1 h;rw[drop_eq_getElem_cons hlt,he]
theorem AE (ks:List (List UInt8))(n:Nat):eG (fY ks) (.bad n)=.bad n:=rfl
theorem zf2.KbP(h:p:=by
 have hm:=rW ρ wr Dr big HD.out.at_ ⟨s.toArray⟩;cases hh:Dr.head s
 ·have uS:=hid hh;rw[show Dr.head (⟨s.toArray⟩:ByteArray).data.toList=false from hh,kA (s:=(⟨s.toArray⟩:ByteArray).data.toList) hh] at hm;clear hh;go_wp2_with (first
   |(go_at_call 77;refine hm.mono ?_;rintro e w1 ⟨rfl,d1⟩)
   |(go_at_call 78;refine(uB ρ _ _ big d1.at_).mono ?_;rintro e w2 ⟨rfl,d2⟩))
  go_end0;refine⟨rfl,?_⟩;rw[HS.out,BX.out,uz,yF uS.out,AE];exact HD.out.trans (d1.trans d2)
 ·have uS:=hid hh;rw[show Dr.head (⟨s.toArray⟩:ByteArray).data.toList=true from hh,oT (s:=(⟨s.toArray⟩:ByteArray).data.toList) hh] at hm;clear hh;go_wp2_with (first
   |(go_at_call 77;refine hm.mono ?_;rintro e w1 ⟨rfl,d1⟩))
  go_roundw;case rel=>refine⟨i+1,_,by omega,by go_num,HD.out.trans d1,?_⟩;rw[HS.out,BX.out,uz,rU uS.out]
  case measure=>exact Zcj):p:=h
theorem Pa (ρ:bj)(w:World)(σ:dO)(big:Bool)(h:ρ.at w σ big)(ks:List (List UInt8))(b n:Nat)(hn:ks.length=n)(hb:av w b 9 (aK ks))(hbg:ρ.g≠b)(hsm:n<=10):
  Calls Tryz.prog 131 #[ρ.ptr,.slice (some ⟨b,0,none⟩) n n] w (AB ρ w (eG (fY ks) σ) big):=by
 have HH:=hid h;have HB:=hid hb;clear h hb;go_enter Tryz.func131,Tryz.ntmps131;go_wp2_with fail;go_loopw [4] (λ u wr=>∃(i:Nat) (Dr:dO),i<=n/\u=.int .i64 i/\gP ρ w wr Dr big/\eG (fY ks) σ=eG (fY (ks.drop i)) Dr) (λ u _=>n - (intOf u).toNat);case atStart=>exact⟨0,σ,Nat.zero_le _,rfl,gP.refl HH.out,rfl⟩
 case round=>
  obtain⟨i,Dr,hi,rfl,hD,hst⟩:=hrel;have HD:=hid hD;have HS:=hid hst;clear hD hst;by_cases hlt:i < n
  ·open zf2 in exact ZdZ
  ·obtain rfl:i=n:=by omega
   have hd:ks.drop i=[]:=drop_eq_nil_of_le Taa;rw[hd] at HS;go_wp2_with fail;go_end0;refine⟨rfl,?_⟩;rw[HS.out,rV];exact HD.out
theorem Pb (ρ:bj)(w:World)(σ:dO)(big:Bool)(h:ρ.at w σ big)(n:Nat)(hn:n<=1000000):
  Calls Tryz.prog 133 #[ρ.ptr,.int .i64 n] w λ e w'=>e=.returned (.bool (σ.head bg))/\gP ρ w w' (eG (may bg) σ) (big || decide (64 < n)):=by
 have AD:ρ.ptr=.pointer (some ⟨ρ.g,0,none⟩):=rfl;obtain⟨c0,c1,c2,c3,f1,f2,f3⟩:=h.facts;by_cases h64:64 < n
 ·have hB:=av.cr h.blk 3 (.bool true);have hg:w.grownBy (w.setCell ⟨ρ.g,3,none⟩ (.bool true)) (some ρ.g):=bn (az (Below.refl _ _)) 3 _;have hat:ρ.at (w.setCell ⟨ρ.g,3,none⟩ (.bool true)) σ true:=h.set hB hg h.of;have hm:=rW ρ _ σ true hat ⟨#[44]⟩;have e1:(big || decide (64 < n))=true:=by simp[h64]
  have hn:(64:Int)< n:=by omega
  rw[e1];clear h hat hB e1;unfold bj.ptr at*;go_enter Tryz.func133,Tryz.ntmps133;go_wp2_with (first
   |(go_at_call 77;refine hm.mono ?_;rintro e w1 ⟨rfl,d1⟩))
  go_ret;exact⟨rfl,⟨d1.at_,ai hg d1.grown⟩⟩
 ·have hm:=rW ρ _ σ big h ⟨#[44]⟩;have e1:(big || decide (64 < n))=big:=by simp[h64]
  have hn:¬(64:Int)< n:=by omega
  rw[e1];clear h e1;unfold bj.ptr at*;go_enter Tryz.func133,Tryz.ntmps133;go_wp2_with (first
   |(go_at_call 77;refine hm.mono ?_;rintro e w1 ⟨rfl,d1⟩))
  go_ret;exact⟨rfl,d1⟩
theorem Fg:(Tryz.prog.info? 36).map (λ i=>(i.zero,i.size,i.bytes))=some (some (.agg #[.int .u8 0,.int .u8 0,.int .i64 0,.string ⟨#[]⟩,.string ⟨#[]⟩,.int .i64 0,.slice none 0 0]),7,88):=by kernel_rfl
variable{W0:World}{row:Option Nat}
theorem gP.own(h:gP ρ W0 w σ big)(hg:ρ.g < W0.heap.size)(k:w.grownBy w' row)(hr:∀G,row=some G->W0.heap.size<=G):gP ρ W0 w' σ big:=by
 have hl:=h.at_.lt;have hs:=h.size;have ng:some ρ.g≠row:=λ e=>by have:=hr _ e.symm;omega
 have nl:some ρ.gl≠row:=λ e=>by have:=hr _ e.symm;omega
 refine⟨⟨h.at_.blk.grown k ng,hl,λ j t ht=>?_,h.at_.of,h.at_.small,h.at_.yE⟩,k.os.trans h.grown.os,k.tape.trans h.grown.tape,k.output.trans h.grown.output,Nat.le_trans hs k.size,λ i hi hne=>?_⟩
 ·have hc:=cell_of_heap (k.block ρ.gl Taa nl);obtain⟨h1,h2,h3,h4⟩:=h.at_.cell j t ht;exact⟨(hc _).trans h1,(hc _).trans h2,(hc _).trans h3,(hc _).trans h4⟩
 ·rw[k.block i Taa (λ e=>by have:=hr _ e.symm;omega)];exact h.grown.block i hi hne
variable{B:Nat}
theorem MT(k:w.grownBy w' row)(G:Nat)(hr:∀g,row=some g->g=G):∀b,Bx B G w b->(∀o,w'.cell? ⟨b,o,none⟩=w.cell? ⟨b,o,none⟩)/\Bx B G w' b:=λ b hb=>
 ⟨cell_of_heap (k.block b hb.2.1 (λ e=>hb.2.2 (hr _ e.symm))),hb.1,Nat.lt_of_lt_of_le hb.2.1 k.size,hb.2.2⟩
variable{base:Nat}{v:Value}{S:Nat->Prop}
theorem KN{f:α->List Value} {e:TypeId} {size:Nat}(hf:∀x,(f x).length=size)    {l:List α}(h:cz f e size w base v l) (hS:∀g,base<=g->g < w.heap.size->S g):
  ∃A c,v=.slice A l.length c/\RL f size w S A l:=by
 obtain⟨A,c,hv,_⟩:=h.reads;refine⟨A,c,hv,?_⟩
 match l,h,hv with
 | [],_,_=>exact .inl rfl
 | x::l,h,hv=>obtain⟨g,c',hv',hb,hlt,_⟩:=h.cell hf (k:=0) (x:=x) rfl;rw[hv] at hv';injection hv' with hA _ _;refine .inr ⟨g,0,hA,hS g hb hlt,λ i y j u hy hu=>?_⟩;obtain⟨g2,c2,hv2,_,_,hc⟩:=h.cell hf hy;rw[hv] at hv2;injection hv2 with zi _ _;rw[hA] at zi;injection zi with zi;injection zi with zi _ _;subst zi;rw[Nat.zero_add];exact hc j u hu
def vM (lv:Nat)(t:Wd):Int:=(eE (opsL lv) [t]).getD 0
variable{lv:Nat}
theorem Q2{t:Wd}(h1:t.k≠1)(h4:t.k≠4):vM lv t=0:=by
 unfold vM
 have:∀ks,eE ks [t]=none:=by
  intro ks
  induction ks with
  | nil=>rfl
  | cons a ks ih=>obtain⟨s,o⟩:=a;simp[eE,ar,fW,h1,h4,ih]
 rw[this];rfl
theorem MP{t:Wd}(h:t.k=1\/t.k=4):vM lv t=((opsL lv).lookup t.s).getD 0:=by
 unfold vM;congr 1;have hk:(t.k==1 || t.k==4)=true:=by rcases h with h | h <;> simp[h]
 generalize opsL lv=ks
 induction ks with
 | nil=>rfl
 | cons a ks ih=>obtain⟨s,o⟩:=a;simp only[eE,ar,fW,hk,Bool.true_and,List.lookup];rw[ih];cases e:(t.s==s)<;> simp
def tx (lv:Nat)(t:Wd)(w:World)(e:Ending)(w':World):Prop:=e=.returned (.int .u8 (vM lv t))/\Below w.heap.size w w'
theorem oB (lv:Nat)(hlv:lv=0\/lv=1\/lv=4\/lv=5)(t:mA)(w:World)(hk:t.w.k=1\/t.w.k=4):
  Calls Tryz.prog 182 #[.int .i64 lv,.agg (bV t)] w (tx lv t.w w):=by
 have HR:=hid (MP (lv:=lv) hk);have hb:=aa w (.cells (bV t) 81);obtain⟨u0,u1,u2,u3,_⟩:=aI (av.new w 81 (bV t));unfold tx;unfold bV at*;rcases hk with hk | hk
 ·have n1:((t.w.k:Int) != 1)=false:=by simp;omega
  exact Zcx
 ·have n1:((t.w.k:Int) != 1)=true:=by simp;omega
  have n2:((t.w.k:Int) != 4)=false:=by simp;omega
  exact Zcx
def Pc:List (List UInt8):=[[61],[60,62],[60],[60,61],[62],[62,61]]
theorem Te{x:List UInt8} (hi:i < 6):∃y,Pc[i]?=some y/\((opsL 3).drop i).lookup x=if x==y then some ((10:Int)+i)else((opsL 3).drop (i+1)).lookup x:=by
 rcases(by omega:i=0\/i=1\/i=2\/i=3\/i=4\/i=5)with rfl | rfl | rfl | rfl | rfl | rfl <;> refine⟨_,rfl,?_⟩<;> simp[opsL,List.lookup,EB,M4,M5,M6,M7,M8] <;> split <;> simp_all
theorem KI (t:mA)(w:World)(hk:t.w.k=1\/t.w.k=4):
  Calls Tryz.prog 182 #[.int .i64 (3:Nat),.agg (bV t)] w (tx 3 t.w w):=by
 have HR:=hid (MP (lv:=3) hk);obtain⟨u0,u1,u2,u3,_⟩:=aI (av.new w 81 (bV t))
 have hn:(((t.w.k:Int) != 1)=false)\/((((t.w.k:Int) != 1)=true)/\(((t.w.k:Int) != 4)=false)):=by
  rcases hk with hk | hk
  ·exact .inl Tad
  ·exact .inr ⟨by simp;omega,by simp;omega⟩
 clear hk;have b1:=af.then (aa w (.cells (bV t) 81)) (aa _ (.cells (aK Pc) 9));have B1:=(av.new w 81 (bV t)).alloc (.cells (aK Pc) 9);have B2:=av.new (w.alloc (.cells (bV t) 81)) 9 (aK Pc);rw[World.size_alloc] at B2;have mn:=hid B1;have px:=hid B2;have hb:=hid b1;clear B1 B2 b1;unfold tx;have acF:aK Pc= #[.string ⟨#[61]⟩,.string ⟨#[60,62]⟩,.string ⟨#[60]⟩,.string ⟨#[60,61]⟩,.string ⟨#[62]⟩,.string ⟨#[62,61]⟩]:=rfl;rw[acF] at mn px hb;unfold bV at*;generalize vM 3 t.w=R at*
 rcases hn with n1 |⟨n1,n2⟩;all_goals
  go_enter Tryz.func182,Tryz.ntmps182;go_wp2_with fail;clear u0 u1 u2 u3;generalize (w.alloc _).alloc _=W at*;go_loopw [6] (λ u wr=>∃i:Nat,i<=6/\u=.int .i64 i/\Below W.heap.size W wr/\(opsL 3).lookup t.w.s=((opsL 3).drop i).lookup t.w.s) (λ u _=>6 - (intOf u).toNat);case atStart=>exact⟨0,Nat.zero_le _,rfl,Below.refl _ _,rfl⟩
  case round=>
   obtain⟨i,hi,rfl,qZ,hlk⟩:=hrel;have Xw:=hid hlk;have rY:=hid qZ;clear hlk qZ;by_cases hlt:i < 6
   ·obtain⟨y,hy,hstep⟩:=Te (x:=t.w.s) hlt;have HST:=hid hstep;have c2:=(px.out.later rY.out).cell i;rw[<- acF,show(aK Pc)[i]?=some (.string ⟨y.toArray⟩) by simp[aK,hy,strOf]] at c2;have c1:=(mn.out.later rY.out).cell 1;have BW:i < 6:=hlt;clear hy hstep;cases he:(t.w.s==y)
    ·have HE:=hid he;have t1:(y==t.w.s)=false:=by rw[beq_eq_false_iff_ne] at he ⊢;exact λ e=>he e.symm
     clear he;go_wp2_with fail;go_region;go_wp2_with fail;go_roundw;case rel=>refine⟨i+1,by omega,by go_num,rY.out.drew,?_⟩;rw[Xw.out,HST.out,HE.out];rfl
     case measure=>simp[intOf];omega
    ·have HE:=hid he;have t1:(y==t.w.s)=true:=by rw[beq_iff_eq] at he ⊢;exact he.symm
     clear he;go_wp2_with fail;go_region;go_wp2_with fail;go_ret;refine⟨?_,af.then hb.out rY.out.drew⟩;rw[HR.out,Xw.out,HST.out,HE.out];refine jC ?_;rcases(by omega:i=0\/i=1\/i=2\/i=3\/i=4\/i=5)with rfl | rfl | rfl | rfl | rfl | rfl <;> rfl
   ·obtain rfl:i=6:=by omega
    go_wp2_with fail;go_ret;rw[HR.out,Xw.out];exact⟨rfl,af.then hb.out rY.out⟩
theorem KJ (lv:Nat)(hlv:lv=0\/lv=1\/lv=3\/lv=4\/lv=5)(t:mA)(w:World):
  Calls Tryz.prog 182 #[.int .i64 lv,.agg (bV t)] w (tx lv t.w w):=by
 by_cases hk:t.w.k=1\/t.w.k=4
 ·rcases hlv with rfl | rfl | rfl | rfl | rfl
  ·exact oB 0 Tae t w hk
  ·exact oB 1 Tae t w hk
  ·exact KI t w hk
  ·exact oB 4 Tae t w hk
  ·exact oB 5 Tae t w hk
 ·have hb:=aa w (.cells (bV t) 81);obtain⟨u0,u1,u2,u3,_⟩:=aI (av.new w 81 (bV t));unfold tx;unfold bV at*;have HR:=hid (Q2 (lv:=lv) (λ e=>hk (.inl e)) (λ e=>hk (.inr e)));generalize vM lv t.w=R at*;have n1:((t.w.k:Int) != 1)=true:=by simp;omega
  have n2:((t.w.k:Int) != 4)=true:=by simp;omega
  go_enter Tryz.func182,Tryz.ntmps182;go_wp2_with fail;go_ret;rw[HR.out];exact⟨rfl,hb⟩
theorem AG (lv:Nat)(z:Int)(hz:z=lv)(hlv:lv=0\/lv=1\/lv=3\/lv=4\/lv=5)(t:mA)(w:World):
  Calls Tryz.prog 182 #[.int .i64 z,.agg #[.int .u8 t.w.k,.string ⟨t.w.s.toArray⟩,.int .i64 t.w.n,.int .i64 t.p]] w λ e w'=>e=.returned (.int .u8 (vM lv t.w))/\Below w.heap.size w w':=by subst hz;exact KJ lv hlv t w
def Ds (y:Ex):Obj:=.cells (aL y).toArray 36
def Cn (y z:Ex):Obj:=.cells (aL y++aL z).toArray 36
def ia:List Nat->Nat
 | []=>0
 | a::l=>max a (ia l)
theorem xZ:∀(l:List Nat) (a:Nat),ia (l++ [a])=max (ia l) a
 | [],a=>by simp[ia]
 | b::l,a=>by simp only[cons_append,ia,xZ l a];omega
theorem xm{l:List Nat} {d:Nat}(h:l[i]?=some d):ia (l.take (i+1))=max (ia (l.take i)) d:=by rw[take_add_one,h];exact xZ _ _
theorem vP:∀ {l:List Nat} {d:Nat},d∈l->d<=ia l
 | a::l,d,h=>by
   rcases List.mem_cons.1 h with rfl | h
   ·simp only[ia];omega
   ·have:=vP h;simp only[ia];omega
theorem mP:∀(l:List Nat) (i:Nat),ia (l.take i)<=ia l
 | [],i=>by simp[ia]
 | a::l,0=>by simp[ia]
 | a::l,i+1=>by have:=mP l i;simp only[take_succ_cons,ia];omega
theorem oD:∀ts:List Tr,Tr.ko ts=ia (ts.map Tr.depth)
 | []=>by simp[Tr.ko,ia]
 | t::ts=>by simp[Tr.ko,ia,oD ts]
def qM (f:FuncId)(w:World)(y:Ex)(d:Nat):Prop:=∀W,Below w.heap.size w W->Calls Tryz.prog f #[dA y] W λ e w'=>e=.returned (.int .i64 d)/\Below W.heap.size W w'
theorem zdk.KaN(h:p:=by refine(hDx wr hwr).mono ?_;rintro e w' ⟨rfl,b'⟩;exact ZgF):p:=h
theorem zcY.KaF(h:p:=by
 go_enter Tryz.func21,Tryz.ntmps21;go_wp2_with fail;generalize W.alloc _=W1 at*;have rY:=hid hb;have HW:=hid hW;clear hb;go_loopw [3,4] (λ m iv wr=>∃i:Nat,i<=ys.length/\iv=.int .i64 i/\m=.int .i64 (ia (ds.take i))/\Below W1.heap.size W1 wr) (λ _ iv _=>ys.length - (intOf iv).toNat);case atStart=>exact⟨0,Nat.zero_le _,rfl,rfl,Below.refl _ _⟩
 case round=>
  obtain⟨i,hi,rfl,rfl,qZ⟩:=hrel;have x6:=(HX.later qZ).cell 6;simp only[Uaa] at x6;have hml:=mP ds i;have Wb:=HM.out;by_cases hlt:i < ys.length
  ·open zdk in exact Zbd
  ·exact ZcZ):p:=h
theorem Hu (w:World)(y:Ex)(ys:List Ex)(ds:List Nat)(S:Nat->Prop)(hS:∀b,S b->b < w.heap.size)(hn:y.n=ys.length)(hA:RL aL 7 w S y.A ys)(hd:ds.length=ys.length)(hD:∀(i:Nat) x d,ys[i]?=some x->ds[i]?=some d->qM 21 w x d)(hm:ia ds<=1000000)(hl:ys.length<=1000000000):qM 21 w y (ia ds+1):=by
 open zcY in exact Za2
theorem zcZ.KaF(h:p:=by go_enter Tryz.func155,Tryz.ntmps155;exact Zak):p:=h
theorem Hv (w:World)(y:Ex)(ys:List Ex)(ds:List Nat)(S:Nat->Prop)(hS:∀b,S b->b < w.heap.size)(hn:y.n=ys.length)(hA:RL aL 7 w S y.A ys)(hd:ds.length=ys.length)(hD:∀(i:Nat) x d,ys[i]?=some x->ds[i]?=some d->qM 155 w x d)(hm:ia ds<=1000000)(hl:ys.length<=1000000000):qM 155 w y (ia ds+1):=by
 open zcZ in exact Za2
mutual
def Tr.thin:Tr->Prop
 | .mk op v name width args=>args.length<=1000000000/\Tr.gT args
def Tr.gT:List Tr->Prop
 | []=>True
 | t::ts=>t.thin/\Tr.gT ts
end
mutual
theorem Tr.acK {w:World} {S:Nat->Prop}(hS:∀b,S b->b < w.heap.size):∀(t:Tr) (y:Ex),t.at_ w S y->t.thin->t.depth<=1000000->qM 21 w y t.depth
 | .mk op v name width args,y,h,ht,hd=>by unfold Tr.at_ at h;obtain⟨_,_,_,_,hn,ys,hr,ha⟩:=h;unfold Tr.thin at ht;simp only[Tr.depth] at hd ⊢;have hl:=Tr.dS.length ha;rw[oD] at hd ⊢;exact Hu w y ys (args.map Tr.depth) S hS Tba hr (by simp[hl]) (Tr.ZF hS args ys ha ht.2 Taa) Taa TaC
theorem Tr.ZF {w:World} {S:Nat->Prop}(hS:∀b,S b->b < w.heap.size):∀(ts:List Tr) (ys:List Ex),Tr.dS w S ts ys->Tr.gT ts->ia (ts.map Tr.depth)<=1000000->∀(i:Nat) x d,ys[i]?=some x->(ts.map Tr.depth)[i]?=some d->qM 21 w x d
 | [],ys,h,_,_,i,x,d,hx,hd=>by simp at hd
 | t::ts,ys,h,ht,hm,i,x,d,hx,hd=>by
   unfold Tr.dS at h;obtain⟨y,ys',rfl,h1,h2⟩:=h;unfold Tr.gT at ht;simp only[map_cons,ia] at hm
   match i,hx,hd with
   | 0,hx,hd=>simp at hx hd;subst hx hd;exact Tr.acK hS t y h1 ht.1 Taa
   | i+1,hx,hd=>exact Tr.ZF hS ts ys' h2 ht.2 Taa i x d TaJ (by simpa using hd)
end
mutual
theorem Tr.acL {w:World} {S:Nat->Prop}(hS:∀b,S b->b < w.heap.size):∀(t:Tr) (y:Ex),t.at_ w S y->t.thin->t.depth<=1000000->qM 155 w y t.depth
 | .mk op v name width args,y,h,ht,hd=>by unfold Tr.at_ at h;obtain⟨_,_,_,_,hn,ys,hr,ha⟩:=h;unfold Tr.thin at ht;simp only[Tr.depth] at hd ⊢;have hl:=Tr.dS.length ha;rw[oD] at hd ⊢;exact Hv w y ys (args.map Tr.depth) S hS Tba hr (by simp[hl]) (Tr.ZG hS args ys ha ht.2 Taa) Taa TaC
theorem Tr.ZG {w:World} {S:Nat->Prop}(hS:∀b,S b->b < w.heap.size):∀(ts:List Tr) (ys:List Ex),Tr.dS w S ts ys->Tr.gT ts->ia (ts.map Tr.depth)<=1000000->∀(i:Nat) x d,ys[i]?=some x->(ts.map Tr.depth)[i]?=some d->qM 155 w x d
 | [],ys,h,_,_,i,x,d,hx,hd=>by simp at hd
 | t::ts,ys,h,ht,hm,i,x,d,hx,hd=>by
   unfold Tr.dS at h;obtain⟨y,ys',rfl,h1,h2⟩:=h;unfold Tr.gT at ht;simp only[map_cons,ia] at hm
   match i,hx,hd with
   | 0,hx,hd=>simp at hx hd;subst hx hd;exact Tr.acL hS t y h1 ht.1 Taa
   | i+1,hx,hd=>exact Tr.ZG hS ts ys' h2 ht.2 Taa i x d TaJ (by simpa using hd)
end
def uT:Obj:=.cells #[.int .u8 0,.int .u8 0,.int .i64 0,.string ⟨#[]⟩,.string ⟨#[]⟩,.int .i64 0,.slice none 0 0] 36
variable{q:Nat}{y:Ex}
theorem dV(h:av w q 36 (aL y).toArray):
  w.cell? ⟨q,0,none⟩=some (.int .u8 y.op)/\w.cell? ⟨q,1,none⟩=some (.int .u8 y.v.k)/\w.cell? ⟨q,2,none⟩=some (.int .i64 y.v.n)/\w.cell? ⟨q,3,none⟩=some (.string y.v.s)/\w.cell? ⟨q,4,none⟩=some (.string y.name)/\w.cell? ⟨q,5,none⟩=some (.int .i64 y.width)/\w.cell? ⟨q,6,none⟩=some (.slice y.A y.n y.c):=
 ⟨h.cell 0,h.cell 1,h.cell 2,h.cell 3,h.cell 4,h.cell 5,h.cell 6⟩
variable{T:TypeId}{a b d e f:Value}
theorem cf{c g:Value}(h:av w q T #[a,b,c,d,e,f,g]):
  w.cell? ⟨q,0,none⟩=some a/\w.cell? ⟨q,1,none⟩=some b/\w.cell? ⟨q,2,none⟩=some c/\w.cell? ⟨q,3,none⟩=some d/\w.cell? ⟨q,4,none⟩=some e/\w.cell? ⟨q,5,none⟩=some f/\w.cell? ⟨q,6,none⟩=some g:=
 ⟨h.cell 0,h.cell 1,h.cell 2,h.cell 3,h.cell 4,h.cell 5,h.cell 6⟩
variable{cs:Array Value}
theorem gI(h:av w q 36 cs):
  w.frozen? ⟨q,0,none⟩=false/\w.frozen? ⟨q,1,none⟩=false/\w.frozen? ⟨q,2,none⟩=false/\w.frozen? ⟨q,3,none⟩=false/\w.frozen? ⟨q,4,none⟩=false/\w.frozen? ⟨q,5,none⟩=false/\w.frozen? ⟨q,6,none⟩=false:=
 ⟨h.frozen 0,h.frozen 1,h.frozen 2,h.frozen 3,h.frozen 4,h.frozen 5,h.frozen 6⟩
def fZ (w:World)(q:Nat)(y:Ex):World:=((((((w.setCell ⟨q,0,none⟩ (.int .u8 y.op)).setCell ⟨q,1,none⟩ (.int .u8 y.v.k)).setCell ⟨q,2,none⟩ (.int .i64 y.v.n)).setCell ⟨q,3,none⟩ (.string y.v.s)).setCell ⟨q,4,none⟩ (.string y.name)).setCell ⟨q,5,none⟩ (.int .i64 y.width)).setCell ⟨q,6,none⟩ (.slice y.A y.n y.c)
theorem gJ{c g:Value}(h:av w q T #[a,b,c,d,e,f,g])(y:Ex):av (fZ w q y) q T (aL y).toArray:=by have:=((((((h.cr 0 (.int .u8 y.op)).cr 1 (.int .u8 y.v.k)).cr 2 (.int .i64 y.v.n)).cr 3 (.string y.v.s)).cr 4 (.string y.name)).cr 5 (.int .i64 y.width)).cr 6 (.slice y.A y.n y.c);exact Zdf
theorem Pf{p:Nat}  (h:av w p T cs)(hp:p≠q)(y:Ex):av (fZ w q y) p T cs:=
 ((((((h.far (p:=⟨q,0,none⟩) hp _).far (p:=⟨q,1,none⟩) hp _).far (p:=⟨q,2,none⟩) hp _).far (p:=⟨q,3,none⟩) hp _).far (p:=⟨q,4,none⟩) hp _).far (p:=⟨q,5,none⟩) hp _).far (p:=⟨q,6,none⟩) hp _
variable{W:World}
theorem gP.fZ(h:gP ρ W w σ big)(hW:ρ.g < W.heap.size)(hq:W.heap.size<=q)(y:Ex):gP ρ W (fZ w q y) σ big:=
 ((((((h.far hW hq 0 _).far hW hq 1 _).far hW hq 2 _).far hW hq 3 _).far hW hq 4 _).far hW hq 5 _).far hW hq 6 _
theorem Zy{S:World->Nat->Prop}(hs:∀(w:World) (i:Nat) (u:Value),∀b,S w b->(∀o,(w.setCell ⟨q,i,none⟩ u).cell? ⟨b,o,none⟩=w.cell? ⟨b,o,none⟩)/\S (w.setCell ⟨q,i,none⟩ u) b)(y:Ex):∀b,S w b->(∀o,(Go.Proofs.YtehhdlgjfdnafaaGreatDoor.fZ w q y).cell? ⟨b,o,none⟩=w.cell? ⟨b,o,none⟩)/\S (Go.Proofs.YtehhdlgjfdnafaaGreatDoor.fZ w q y) b:=by intro b hb;obtain⟨c0,s0⟩:=hs w 0 (.int .u8 y.op) b hb;obtain⟨c1,s1⟩:=hs _ 1 (.int .u8 y.v.k) b s0;obtain⟨c2,s2⟩:=hs _ 2 (.int .i64 y.v.n) b s1;obtain⟨c3,s3⟩:=hs _ 3 (.string y.v.s) b s2;obtain⟨c4,s4⟩:=hs _ 4 (.string y.name) b s3;obtain⟨c5,s5⟩:=hs _ 5 (.int .i64 y.width) b s4;obtain⟨c6,s6⟩:=hs _ 6 (.slice y.A y.n y.c) b s5;exact⟨λ o=>(c6 o).trans ((c5 o).trans ((c4 o).trans ((c3 o).trans ((c2 o).trans ((c1 o).trans (c0 o)))))),s6⟩
variable{t:Tr}
theorem Tr.at_.fZ(h:t.at_ w (ep B w) y)(hq:q < B)(z:Ex):t.at_ (fZ w q z) (ep B (Go.Proofs.YtehhdlgjfdnafaaGreatDoor.fZ w q z)) y:=Tr.at_.keep (Zy (S:=λ w=>ep B w) (λ w i u=>ot hq i u) z) t y h
theorem gY (ρ:bj)(w:World)(σ:dO)(big:Bool)(h:ρ.at w σ big)(s:ByteArray)(hh:σ.head s.data.toList=false):
  Calls Tryz.prog 77 #[ρ.ptr,.string s] w λ e w'=>e=.returned (.bool false)/\gP ρ w w' σ big:=by have:=rW ρ w σ big h s;rw[hh,kA hh] at this;exact this
theorem vN (ρ:bj)(w:World)(σ:dO)(big:Bool)(h:ρ.at w σ big)(s:ByteArray)(hh:σ.head s.data.toList=true):
  Calls Tryz.prog 77 #[ρ.ptr,.string s] w λ e w'=>e=.returned (.bool true)/\gP ρ w w' (.good σ.words.tail) big:=by have:=rW ρ w σ big h s;rw[hh,oT hh] at this;exact this
def Nd (ρ:bj)(W:World)(t:Tr)(r:aF)(e:Ending)(w':World):Prop:=∃y,e=.returned (dA y)/\t.at_ w' (ep W.heap.size w') y/\gP ρ W w' (.good r) false
def fk (z:Int)(l:aF)(t:Tr)(r:aF):Prop:=∀(ρ:bj) (w:World),ρ.at w (.good l) false->Calls Tryz.prog 163 #[ρ.ptr,.int .i64 z] w (Nd ρ w t r)
def Ll (l:aF)(t:Tr)(r:aF):Prop:=∀(ρ:bj) (w:World),ρ.at w (.good l) false->Calls Tryz.prog 181 #[ρ.ptr] w (Nd ρ w t r)
variable{r:aF}
theorem Nd.put(hg:ρ.g < w.heap.size)(hq:w.heap.size<=q)(hd:gP ρ w W (.good r) false)(ht:t.at_ W (ep (q+1) W) y):Nd ρ w t r (.returned (dA y)) (fZ W q y):=
 ⟨y,rfl,(ht.fZ (Nat.lt_succ_self q) y).more Taa,hd.fZ hg hq y⟩
variable{l:aF}
theorem ZQ(hn:ar dT l=false)(H:fk 3 l t r):fk 2 l t r:=by intro ρ w h;have aZ:=h.mE;have hb:=aa w uT;have h0:=h.later hb;have hm:=gY ρ _ _ false h0 ⟨#[110,111,116]⟩ hn;exact ZaI
theorem ZR(hn:ar dr l=false)(H:fk 7 l t r):fk 6 l t r:=by intro ρ w h;have aZ:=h.mE;have hb:=aa w uT;have h0:=h.later hb;have hm:=gY ρ _ _ false h0 ⟨#[45]⟩ hn;exact ZaI
theorem zco.Kaw(h:p:=by
 unfold uT at*;go_enter Tryz.func163,Tryz.ntmps163;go_wp2_with fail;refine(H ρ _ h0).mono ?_;rintro e w2 ⟨y,rfl,ht,d2⟩;unfold dA aL;have jw:=d2.blk HQ.out Taa;have lL:=hid jw;obtain⟨z0,z1,z2,z3,z4,z5,z6⟩:=gI jw;obtain⟨y0,y1,y2,y3,y4,y5,y6⟩:=cf jw;have D2:=hid ((gP.aA h hb).trans d2);have hs2:=d2.size;clear jw d2;go_wp2_with fail;have HP:=gJ lL.out y;have HR:=dV HP;unfold fZ at HR;obtain⟨r0,r1,r2,r3,r4,r5,r6⟩:=HR;refine bodyPost_ret (v:=dA y) Zb8 rfl ?_
 ·exact Nd.put aZ (Nat.le_refl _) D2.out (ht.more Taa)):p:=h
theorem ZT(H:Ll l t r):fk 7 l t r:=by intro ρ w h;have aZ:=h.mE;have hb:=aa w uT;have h0:=h.later hb;open zco in exact ZaO
variable{u:Wd}
theorem za0.Kag(h:p:=by
 have Io:=HQW.out.later hW;have ZU:=HX.out.later hW;obtain⟨z0,z1,z2,z3,z4,z5,z6⟩:=gI Io;obtain⟨y0,y1,y2,y3,y4,y5,y6⟩:=cf Io;obtain⟨x0,x1,x2,x3,x4,x5,x6⟩:=cf ZU;have dY:=hid Io;have hqb:=Io.lt;clear Io ZU;go_wp2_with fail;have HP:=gJ dY.out y;have HR:=dV HP;unfold fZ at HR;obtain⟨r0,r1,r2,r3,r4,r5,r6⟩:=HR;refine bodyPost_ret (v:=dA y) Zb8 rfl ?_
 ·exact Nd.put aZ (Nat.le_refl _) (HD.out.later hW) ((HT.out.later hW).more (Nat.le_refl _))):p:=h
theorem zf8.KbR(h:p:=by
 have HBZ:=hid (λ tk=>AG lv z hz Taa tk);have TW:=hid hop;have HH:=hid H;clear hlv hz hop H;unfold uT at*;unfold bj.ptr;go_enter Tryz.func163,Tryz.ntmps163;go_wp2_with (first
  |(go_at_call 163;refine(HH.out ρ _ h0).mono ?_;rintro e w2 ⟨y,rfl,ht,d2⟩;unfold dA aL))
 have hD:=((gP.aA h hb).trans d2).later (aa w2 (.cells #[.int .u8 y.op,.int .u8 y.v.k,.int .i64 y.v.n,.string y.v.s,.string y.name,.int .i64 y.width,.slice y.A y.n y.c] 36));have hX:=av.new w2 36 #[.int .u8 y.op,.int .u8 y.v.k,.int .i64 y.v.n,.string y.v.s,.string y.name,.int .i64 y.width,.slice y.A y.n y.c];have hQ:=(d2.blk HQ.out Taa).alloc (.cells #[.int .u8 y.op,.int .u8 y.v.k,.int .i64 y.v.n,.string y.v.s,.string y.name,.int .i64 y.width,.slice y.A y.n y.c] 36);have hT:=(ht.later (aa w2 (.cells #[.int .u8 y.op,.int .u8 y.v.k,.int .i64 y.v.n,.string y.v.s,.string y.name,.int .i64 y.width,.slice y.A y.n y.c] 36))).more (B':=w.heap.size+1) Taa;have Gd:w.heap.size+1<=w2.heap.size:=by have:=d2.size;omega
 generalize w2.alloc _=W at*;generalize w2.heap.size=qx at*;have HD:=hid hD;have HX:=hid hX;have HQW:=hid hQ;have HT:=hid hT;clear hD hX hQ hT ht d2 h0 hb HQ HH;go_loopg [] 0 (λ k wr=>wr=W);case atStart=>rfl
 case round=>
  obtain rfl:_=W:=hrel;obtain⟨tk,pl,bd,hpl,hlt,V0,yG,eY,hg,xY,uA,hp⟩:=HD.out.at_.lp;obtain⟨r',rq⟩:=hg _ rfl;obtain rfl:u=tk.w:=by injection rq
  have Ay:bd < 0:=by simpa [dO.nJ] using eY
  have HP:=hid hp;have c2:=hp.c2;have TX:=HBZ.out tk;rw[TW.out] at TX;clear hpl hg eY yG hp rq;open za0 in exact Zaj):p:=h
theorem zcp.Kaw(h:p:=by open zf8 in exact Zd5):p:=h
theorem ly(lv:Nat)(hlv:lv=0\/lv=1\/lv=4\/lv=5)   (hop:vM lv u=0)(H:fk ((lv:Int)+1) l t (u::r)):fk lv l t (u::r):=by intro ρ w h;obtain⟨z,hz⟩:∃z:Int,z=lv:=⟨_,rfl⟩;rw[<- hz] at H ⊢;have aZ:=h.mE;have hb:=aa w uT;have h0:=h.later hb;open zcp in exact ZaO
variable{k:Nat}
theorem OY{n:Nat}(h:pl=n - k)(hk:k<=n):(n:Int) - k=pl:=by omega
theorem zgx.Kb0(h:p:=by
 have HWR:=hid hwr;have Q1:=hid hpl;have HG:=hid hg;have Zx:=hid eY;clear hwr hpl hg eY yG;rw[AD];go_enter Tryz.func130,Tryz.ntmps130;go_wp2_with fail;go_region;clear c0 c1 c2 d0 d1 d2 d3 y0 y1 y2 z0 z1 z2 z3 x0 v0 v1 v2 v3;obtain⟨u0,u1,u2,u3,_⟩:=aI HT;clear HT;unfold bV at u0 u1 u2 u3 hb x1 x2 OZ HF HWR HB HD;generalize (w.alloc _).drew=W at*;have hwr:=HWR.out;clear HWR;rw[AD] at hwr;have hres:=Ck ⟨t.w.s.toArray⟩ W;have ja:(⟨t.w.s.toArray⟩:ByteArray).data.toList=t.w.s:=by simp
 rw[ja] at hres;by_cases Ay:bd < 0
 ·obtain⟨l,rfl⟩:∃l,σ=.good l:=by
   match σ,Zx.out with
   | .good l,_=>exact⟨l,rfl⟩
   | .bad m,eY=>simp[dO.nJ] at eY;omega
  obtain⟨r,rfl⟩:=HG.out l rfl;have e1:(pl:Int)+1=(ρ.n:Int) - r.length:=by rw[Q1.out];simp only[dO.left,length_cons] at*;omega
  by_cases hk:t.w.k=1
  ·cases hr:jT t.w.s
   ·have HC:=hid (show t.w.k=1/\jT t.w.s=false from⟨hk,hr⟩);have L9:=λ(W2:World) (hb2:Below W.heap.size W W2)=>bj.at.step (HF.out.later hb2) (show t.w.k≠0 by omega)
    have RH:=hid L9;have hs0:=λ(W2:World) (hb2:Below W.heap.size W W2)=>(HB.out.later hb2).cell 1
    have HS0:=hid hs0;have HX:=hid (λ(W2:World) (hb2:Below W.heap.size W W2)=>(HB.out.later hb2).far (p:=⟨ρ.g,1,none⟩) Tad (.int .i64 ((ρ.n:Int) - r.length)));rw[hr] at hres;have dY:=hid hres;clear L9 hs0 hr hres;go_wp2_with (go_at_call 91;go_loud (refine dY.out.mono ?_;rintro e w1 ⟨rfl,b1⟩;obtain⟨q0,q1,q2,q3,p1,p2,p3⟩:=(HF.out.later b1).facts;have s1:=(HX.out w1 b1).cell 1;have e2:(ρ.n:Int) - (dO.good (t.w::r)).left=pl:=(OY Q1.out rp.2);rw[e2] at q1));go_ret;refine⟨⟨t.w.s.toArray⟩,rfl,?_,KH _ _⟩;rw[tj,if_pos HC.out];exact(HD.out.later b1).trans (RH.out w1 b1)
   ·have e3:eG ct (.good (t.w::r))=.bad (r.length+1):=by rw[tj,if_neg (by rw[hr];simp)]
    have tq:=hid e3;rw[hr] at hres;have dY:=hid hres;clear hr e3 hres;go_wp2_with (first
     |(go_at_call 91;refine dY.out.mono ?_;rintro e w1 ⟨rfl,b1⟩)
     |(go_at_call 78;refine(uB ρ _ _ big (HF.out.later b1)).mono ?_;rintro e w2 ⟨rfl,d1⟩))
    go_ret;refine⟨ByteArray.empty,rfl,?_,vL tq.out _⟩;rw[tq.out];exact(HD.out.later b1).trans d1
  ·have e3:eG ct (.good (t.w::r))=.bad (r.length+1):=by rw[tj,if_neg (by simp[hk])]
   have tq:=hid e3;have g1:((t.w.k:Int) != 1)=true:=by simp;omega
   clear e3;go_wp2_with (go_at_call 78;refine hwr.mono ?_;rintro e w1 ⟨rfl,d1⟩);go_ret;refine⟨ByteArray.empty,rfl,?_,vL tq.out _⟩;rw[tq.out];exact HD.out.trans d1
 ·obtain⟨m,rfl⟩:∃m,σ=.bad m:=by
   match σ,Zx.out with
   | .good l,eY=>simp[dO.nJ] at eY;omega
   | .bad m,_=>exact⟨m,rfl⟩
  go_wp2_with (go_at_call 78;refine hwr.mono ?_;rintro e w1 ⟨rfl,d1⟩);go_ret;exact⟨ByteArray.empty,rfl,HD.out.trans d1,OL _ _ _⟩):p:=h
theorem Xv (ρ:bj)(w:World)(σ:dO)(big:Bool)(h:ρ.at w σ big):
  Calls Tryz.prog 130 #[ρ.ptr] w λ e w'=>∃x:ByteArray,e=.returned (.string x)/\gP ρ w w' (eG ct σ) big/\pG ct σ x:=by obtain⟨t,pl,bd,hpl,hlt,hsm,yG,eY,hg,xY,uA,hp⟩:=h.lp;have Xu:=hp.later (aa w xh);have Q0:=hp.later ((aa w (.cells (bV t) 81)).drew);have hb:=(aa w (.cells (bV t) 81)).drew;have HT:=(av.new w 81 (bV t)).drew;have HB:=hid HT;have HF:=hid (h.later hb);have HD:=hid (gP.aA h hb);have OZ:=(h.later hb).facts.2.2.2.2.1;have AD:ρ.ptr=.pointer (some ⟨ρ.g,0,none⟩):=rfl;have hwr:=uB ρ _ σ big (h.later hb);have rp:=h.left;have aZ:=h.mE;clear h;open zgx in exact Zek
end Go.Proofs.YtehhdlgjfdnafaaGreatDoor
