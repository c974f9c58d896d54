/- Parts of the proof. -/
import Derived.Test.YtehhdlgjfdnafaaGreatDoorXB8
namespace Go.Proofs.YtehhdlgjfdnafaaGreatDoor
variable{p:Prop}
set_option maxHeartbeats 90000000
set_option maxRecDepth 100000
open Go.Lib (hid)
open Go.ChangeShapes Go.WideShapes Go.ChangeAt Go.RowKit List
set_option linter.unusedVariables false
set_option linter.unusedSimpArgs false
structure bp where
 g:Nat
 gl:Nat
 c:Nat
 AK:List np
def bp.n (ρ:bp):Nat:=ρ.AK.length
def bp.ws (ρ:bp):aI:=ρ.AK.map (·.w)
def bp.bad (ρ:bp):dX->Int
 | .good _=> -1
 | .bad m=>(ρ.n:Int) - m
def bp.cells (ρ:bp)(σ:dX)(big:Bool):Array Value:= #[.slice (some ⟨ρ.gl,0,none⟩) ρ.n ρ.c,.int .i64 ((ρ.n:Int) - σ.left),.int .i64 (ρ.bad σ),.bool big]
structure bp.at (ρ:bp) (w:World) (σ:dX) (big:Bool):Prop where
 blk:av w ρ.g 125 (ρ.cells σ big)
 lt:ρ.gl < ρ.g
 cell:∀k t,ρ.AK[k]?=some t->w.cell? ⟨ρ.gl,k*4,none⟩=some (.int .u8 t.w.k)/\w.cell? ⟨ρ.gl,k*4+1,none⟩=some (.string ⟨t.w.s.toArray⟩)/\w.cell? ⟨ρ.gl,k*4+2,none⟩=some (.int .i64 t.w.n)/\w.cell? ⟨ρ.gl,k*4+3,none⟩=some (.int .i64 t.p)
 of:σ.of ρ.ws
 small:ρ.n<=5000
 AL:∀t∈ρ.AK,0<=t.w.n/\t.w.n<=9223372036854775807
section
variable {ρ:bp} {w w':World} {σ:dX} {big:Bool}
theorem bp.at.later (h:ρ.at w σ big)(hb:Below w.heap.size w w'):ρ.at w' σ big:=
 ⟨h.blk.later hb,h.lt,λ k t hk=>by
   have hl:ρ.gl < w.heap.size:=Nat.lt_trans h.lt h.blk.lt
   have c:=λ o=>hb.cell (p:=⟨ρ.gl,o,none⟩) hl
   obtain⟨h1,h2,h3,h4⟩:=h.cell k t hk
   exact⟨(c _).trans h1,(c _).trans h2,(c _).trans h3,(c _).trans h4⟩,h.of,h.small,h.AL⟩
theorem bp.at.nt (h:ρ.at w σ big):ρ.g < w.heap.size:=h.blk.lt
theorem bp.at.set {FE:dX} {NV:Bool}(h:ρ.at w σ big)(hw:av w' ρ.g 125 (ρ.cells FE NV))(hg:w.grownBy w' (some ρ.g))(ho:FE.of ρ.ws):ρ.at w' FE NV:=
 ⟨hw,h.lt,λ k t hk=>by
   have hl:ρ.gl < w.heap.size:=Nat.lt_trans h.lt h.blk.lt
   have c:=cell_of_heap (hg.block ρ.gl hl (λ e=>by injection e with e;have:=h.lt;omega))
   obtain⟨h1,h2,h3,h4⟩:=h.cell k t hk
   exact⟨(c _).trans h1,(c _).trans h2,(c _).trans h3,(c _).trans h4⟩,ho,h.small,h.AL⟩
theorem bp.at.left (h:ρ.at w σ big):0 < σ.left/\σ.left<=ρ.n:=by have:=dX.Ij h.of;simpa [bp.ws,bp.n] using this
theorem bp.at.far {q:Nat}(h:ρ.at w σ big)(hq:ρ.g < q)(i:Nat)(u:Value):ρ.at (w.setCell ⟨q,i,none⟩ u) σ big:=
 ⟨h.blk.far (p:=⟨q,i,none⟩) Tad u,h.lt,λ k t hk=>by
   have c:=cell_of_heap (Below.heap_setCell w ⟨q,i,none⟩ u ρ.gl (by have:=h.lt;simp;omega))
   obtain⟨h1,h2,h3,h4⟩:=h.cell k t hk
   exact⟨(c _).trans h1,(c _).trans h2,(c _).trans h3,(c _).trans h4⟩,h.of,h.small,h.AL⟩
theorem bp.at.next (h:ρ.at w σ big):∃t:np,ρ.AK[ρ.n - σ.left]?=some t/\(∀l,σ=.good l->∃r,l=t.w::r):=by
 obtain⟨h1,h2⟩:=h.left;have hlt:ρ.n - σ.left < ρ.AK.length:=by unfold bp.n at*;omega
 refine⟨_,getElem?_eq_getElem hlt,?_⟩;rintro l rfl;obtain⟨t,r,hl,hk⟩:=dX.of_next h.of;refine⟨r,?_⟩;have e:ρ.ws.length - l.length=ρ.n - (dX.good l).left:=by simp[bp.ws,bp.n,dX.left]
 exact ZdM
end
structure iq (ρ:bp) (W w':World) (FE:dX) (NV:Bool):Prop where
 at_:ρ.at w' FE NV
 grown:W.grownBy w' (some ρ.g)
section
variable {ρ:bp} {W w w':World} {σ FE:dX} {big NV:Bool}
theorem iq.refl (h:ρ.at w σ big):iq ρ w w σ big:=⟨h,aB (Below.refl _ _)⟩
theorem iq.aC (h:ρ.at w σ big)(hb:Below w.heap.size w w'):iq ρ w w' σ big:=⟨h.later hb,aB hb⟩
theorem iq.later (h:iq ρ W w σ big)(hb:Below w.heap.size w w'):iq ρ W w' σ big:=⟨h.at_.later hb,ai h.grown (aB hb)⟩
theorem iq.trans (h:iq ρ W w σ big)(k:iq ρ w w' FE NV):iq ρ W w' FE NV:=⟨k.at_,ai h.grown k.grown⟩
theorem iq.lt (h:iq ρ W w σ big):ρ.g < w.heap.size:=h.at_.nt
theorem iq.size (h:iq ρ W w σ big):W.heap.size<=w.heap.size:=h.grown.size
theorem iq.far {q:Nat}(h:iq ρ W w σ big)(hW:ρ.g < W.heap.size)(hq:W.heap.size<=q)(i:Nat)(u:Value):iq ρ W (w.setCell ⟨q,i,none⟩ u) σ big:=by exact Zcq
theorem iq.blk {q:Nat} {t:TypeId} {cs:Array Value}(h:iq ρ W w σ big)(hq:av W q t cs)(hg:q≠ρ.g):av w q t cs:=hq.grown h.grown λ e=>hg Ta3
end
def bp.ptr (ρ:bp):Value:=.pointer (some ⟨ρ.g,0,none⟩)
variable{ρ:bp}{w:World}{σ:dX}{big:Bool}
theorem bp.at.facts(h:ρ.at w σ big):
  w.cell? ⟨ρ.g,0,none⟩=some (.slice (some ⟨ρ.gl,0,none⟩) ρ.n ρ.c)/\w.cell? ⟨ρ.g,1,none⟩=some (.int .i64 ((ρ.n:Int) - σ.left))/\w.cell? ⟨ρ.g,2,none⟩=some (.int .i64 (ρ.bad σ))/\w.cell? ⟨ρ.g,3,none⟩=some (.bool big)/\
  w.frozen? ⟨ρ.g,1,none⟩=false/\w.frozen? ⟨ρ.g,2,none⟩=false/\w.frozen? ⟨ρ.g,3,none⟩=false:=
 ⟨h.blk.cell 0,h.blk.cell 1,h.blk.cell 2,h.blk.cell 3,h.blk.frozen 1,h.blk.frozen 2,h.blk.frozen 3⟩
theorem bp.at.place(h:ρ.at w σ big):((ρ.n:Int) - σ.left)=((ρ.n - σ.left:Nat):Int):=by have:=h.left;omega
theorem bp.at.Qw(h:ρ.at w σ big):decide (ρ.bad σ < 0)=σ.ou:=by
 have hl:=h.left
 match σ,hl with
 | .bad m,hl=>have e:ρ.bad (.bad m)=(ρ.n:Int) - m:=rfl;have e2:(dX.bad m).left=m:=rfl;rw[e2] at hl;rw[e];simp only[dX.ou,decide_eq_false_iff_not];omega
 | .good l,_=>rfl
variable{s:ByteArray}
theorem KG{t:Wd}:gJ s.data.toList t=((t.k==1 || t.k==4)&&(t.s==s.toList)):=by unfold gJ;rw[ByteArray.toList_eq]
def zg:Obj:=.cells #[.int .u8 0,.string ⟨#[]⟩,.int .i64 0,.int .i64 0] 81
def cn (t:np):Array Value:= #[.int .u8 t.w.k,.string ⟨t.w.s.toArray⟩,.int .i64 t.w.n,.int .i64 t.p]
structure U2 (ρ:bp) (w:World) (t:np) (pl:Nat) (bd:Int):Prop where
 c0:w.cell? ⟨ρ.g,0,none⟩=some (.slice (some ⟨ρ.gl,0,none⟩) ρ.n ρ.c)
 c1:w.cell? ⟨ρ.g,1,none⟩=some (.int .i64 pl)
 c2:w.cell? ⟨ρ.g,2,none⟩=some (.int .i64 bd)
 d0:w.cell? ⟨ρ.gl,pl*4,none⟩=some (.int .u8 t.w.k)
 d1:w.cell? ⟨ρ.gl,pl*4+1,none⟩=some (.string ⟨t.w.s.toArray⟩)
 d2:w.cell? ⟨ρ.gl,pl*4+2,none⟩=some (.int .i64 t.w.n)
 d3:w.cell? ⟨ρ.gl,pl*4+3,none⟩=some (.int .i64 t.p)
variable{w':World}{pl:Nat}{bd:Int}
theorem U2.later{t:np}  (h:U2 ρ w t pl bd)(hb:Below w.heap.size w w'):U2 ρ w' t pl bd:=by obtain⟨h0,h1,h2,h3,h4,h5,h6⟩:=h;exact⟨(hb.cell (ax h0)).trans h0,(hb.cell (ax h1)).trans h1,(hb.cell (ax h2)).trans h2,(hb.cell (ax h3)).trans h3,(hb.cell (ax h4)).trans h4,(hb.cell (ax h5)).trans h5,(hb.cell (ax h6)).trans h6⟩
theorem bp.at.mh(h:ρ.at w σ big):∃(t:np) (pl:Nat) (bd:Int),pl=ρ.n - σ.left/\pl < ρ.n/\ρ.n<=5000/\bd=ρ.bad σ/\decide (bd < 0)=σ.ou/\(∀l,σ=.good l->∃r,l=t.w::r)/\0<=t.w.n/\t.w.n<=9223372036854775807/\U2 ρ w t pl bd:=by obtain⟨t,ht,hg⟩:=h.next;obtain⟨d0,d1,d2,d3⟩:=h.cell _ t ht;obtain⟨c0,c1,c2,c3,f1,f2,f3⟩:=h.facts;have hl:=h.left;rw[h.place] at c1;have hn:=h.AL t (mem_of_getElem? ht);exact⟨t,_,_,rfl,by omega,h.small,rfl,h.Qw,hg,hn.1,hn.2,c0,c1,c2,d0,d1,d2,d3⟩
theorem zg9.Kca(h:p:=by
 go_enter Tryz.func126,Tryz.ntmps126;go_wp2_with fail;go_region;clear c0 c1 c2 d0 d1 d2 d3 y0 y1 y2 z0 z1 z2 z3 x0 x1 v0 v1 v2 v3;obtain⟨u0,u1,u2,u3,_⟩:=aN HT;unfold cn at x2 u0 u1 u2 u3 hb;generalize (w.alloc _).drew=W at*;go_wp2_with fail
 all_goals
  go_ret;refine⟨cW ?_,hb⟩;rw[wQ.out];generalize (t.w.s==s.toList)=X;cases X <;> rw[Bool.eq_iff_iff] <;> simp <;> omega):p:=h
theorem zh (ρ:bp)(w:World)(σ:dX)(big:Bool)(h:ρ.at w σ big)(s:ByteArray):
  Calls Tryz.prog 126 #[ρ.ptr,.string s] w λ e w'=>e=.returned (.bool (σ.head s.data.toList))/\Below w.heap.size w w':=by
 obtain⟨t,pl,bd,hpl,hlt,hsm,AP,fA,hg,Ai,vv,hp⟩:=h.mh;have U3:=hp.later (aa w zg);have hp3:=hp.later ((aa w (.cells (cn t) 81)).drew)
 have hHD:σ.head s.data.toList=(decide (bd < 0)&&((t.w.k==1 || t.w.k==4)&&(t.w.s==s.toList))):=by
  rw[fA]
  match σ with
  | .bad m=>rfl
  | .good l=>obtain⟨r,rfl⟩:=hg l rfl;rw[<- KG];rfl
 have wQ:=hid hHD;have hb:=(aa w (.cells (cn t) 81)).drew;have HT:=(av.new w 81 (cn t)).drew;clear hHD hpl hg fA AP h;unfold bp.ptr;generalize σ.head s.data.toList=R at*;open zg9 in exact Zey
def CD (ρ:bp)(W:World)(FE:dX)(big:Bool)(e:Ending)(w':World):Prop:=e=.returned (.tuple #[])/\iq ρ W w' FE big
theorem vW (ρ:bp)(w:World)(σ:dX)(big:Bool)(h:ρ.at w σ big):
  Calls Tryz.prog 78 #[ρ.ptr] w (CD ρ w (.bad σ.left) big):=by
 obtain⟨c0,c1,c2,c3,f1,f2,f3⟩:=h.facts;have sD:=h.left;have fA:=h.Qw;have Nf:dX.of ρ.ws (.bad σ.left):=⟨(dX.Ij h.of).1,(dX.Ij h.of).2⟩;unfold bp.ptr;by_cases hg:ρ.bad σ < 0
 ·have hB:=av.cC h.blk 2 (.int .i64 ((ρ.n:Int) - σ.left));go_enter Tryz.func78,Tryz.ntmps78;go_wp2_with fail;go_end0;exact⟨rfl,h.set hB (bu (aB (Below.refl _ _)) 2 _) Nf,bu (aB (Below.refl _ _)) 2 _⟩
 ·have AP:σ=.bad σ.left:=by
   match σ with
   | .bad m=>rfl
   | .good l=>exact absurd (by show(-1:Int)< 0;decide) hg
  have HBD:=hid AP;clear AP;go_enter Tryz.func78,Tryz.ntmps78;go_wp2_with fail;go_end0;rw[<- HBD.out];exact⟨rfl,iq.refl h⟩
theorem bp.at.step {ρ:bp} {w:World} {l:aI} {t:Wd} {big:Bool}(h:ρ.at w (.good (t::l)) big)(ht:t.k≠0):
  iq ρ w (w.setCell ⟨ρ.g,1,none⟩ (.int .i64 ((ρ.n:Int) - l.length))) (.good l) big:=by exact Zdc
theorem tC (ρ:bp)(w:World)(σ:dX)(big:Bool)(h:ρ.at w σ big)(s:ByteArray):
  Calls Tryz.prog 77 #[ρ.ptr,.string s] w λ e w'=>e=.returned (.bool (σ.head s.data.toList))/\iq ρ w w' (eW (may s.data.toList) σ) big:=by
 have hw:=zh ρ w σ big h s;have CE:ρ.ptr=.pointer (some ⟨ρ.g,0,none⟩):=rfl;cases hh:σ.head s.data.toList
 ·rw[hh] at hw;rw[lH hh];go_enter Tryz.func77,Tryz.ntmps77;go_wp2_with (go_at_call 126;refine hw.mono ?_;rintro e w1 ⟨rfl,b1⟩);go_ret;exact⟨rfl,iq.aC h b1⟩
 ·rw[hh] at hw;obtain⟨t,r,rfl,ht⟩:=Tq hh;rw[pI hh];go_enter Tryz.func77,Tryz.ntmps77;have HH:=hid h;have HK:=hid (Cu ht);have hsm:=h.small;clear ht hh h;go_wp2_with (go_at_call 126;refine hw.mono ?_;rintro e w1 ⟨rfl,b1⟩;obtain⟨c0,c1,c2,c3,f1,f2,f3⟩:=(HH.out.later b1).facts;have sD:=(HH.out.later b1).left;have e1:(ρ.n:Int) - (dX.good (t::r)).left+1=(ρ.n:Int) - r.length:=by(simp[dX.left];omega));go_ret;have hd:=bp.at.step (HH.out.later b1) HK.out;exact⟨rfl,(iq.aC HH.out b1).trans hd⟩
def aP (ks:List (List UInt8)):Array Value:=(ks.map strOf).toArray
variable{ks:List (List UInt8)}{i:Nat}
theorem zi{b:Nat} (h:av w b 9 (aP ks))  {s:List UInt8}(hi:ks[i]?=some s):w.cell? ⟨b,i,none⟩=some (.string ⟨s.toArray⟩):=by rw[h.cell i];simp[aP,hi,strOf]
variable{α:Type}{x:α}
theorem tD{l:List α}  (h:l[i]?=some x):l.drop i=x::l.drop (i+1):=by obtain⟨hlt,he⟩:=List.getElem?_eq_some_iff.1 h;rw[drop_eq_getElem_cons hlt,he]
theorem CF (ks:List (List UInt8))(n:Nat):eW (gK ks) (.bad n)=.bad n:=rfl
theorem zgL.Kb1(h:p:=by
 have hm:=tC ρ wr FE big HD.out.at_ ⟨s.toArray⟩;cases hh:FE.head s
 ·have wQ:=hid hh;rw[show FE.head (⟨s.toArray⟩:ByteArray).data.toList=false from hh,lH (s:=(⟨s.toArray⟩:ByteArray).data.toList) hh] at hm;clear hh;go_wp2_with (first
   |(go_at_call 77;refine hm.mono ?_;rintro e w1 ⟨rfl,d1⟩)
   |(go_at_call 78;refine(vW ρ _ _ big d1.at_).mono ?_;rintro e w2 ⟨rfl,d2⟩))
  go_end0;refine⟨rfl,?_⟩;rw[HS.out,Er.out,vV,AO wQ.out,CF];exact HD.out.trans (d1.trans d2)
 ·have wQ:=hid hh;rw[show FE.head (⟨s.toArray⟩:ByteArray).data.toList=true from hh,pI (s:=(⟨s.toArray⟩:ByteArray).data.toList) hh] at hm;clear hh;go_wp2_with (first
   |(go_at_call 77;refine hm.mono ?_;rintro e w1 ⟨rfl,d1⟩))
  go_roundw;case rel=>refine⟨i+1,_,by omega,by go_num,HD.out.trans d1,?_⟩;rw[HS.out,Er.out,vV,tA wQ.out]
  case measure=>exact Zcu):p:=h
theorem Tt (ρ:bp)(w:World)(σ:dX)(big:Bool)(h:ρ.at w σ big)(ks:List (List UInt8))(b n:Nat)(hn:ks.length=n)(hb:av w b 9 (aP ks))(hbg:ρ.g≠b)(hsm:n<=10):
  Calls Tryz.prog 131 #[ρ.ptr,.slice (some ⟨b,0,none⟩) n n] w (CD ρ w (eW (gK ks) σ) big):=by
 have HH:=hid h;have HB:=hid hb;clear h hb;go_enter Tryz.func131,Tryz.ntmps131;go_wp2_with fail;go_loopw [4] (λ u wr=>∃(i:Nat) (FE:dX),i<=n/\u=.int .i64 i/\iq ρ w wr FE big/\eW (gK ks) σ=eW (gK (ks.drop i)) FE) (λ u _=>n - (intOf u).toNat);case atStart=>exact⟨0,σ,Nat.zero_le _,rfl,iq.refl HH.out,rfl⟩
 case round=>
  obtain⟨i,FE,hi,rfl,hD,hst⟩:=hrel;have HD:=hid hD;have HS:=hid hst;clear hD hst;by_cases hlt:i < n
  ·open zgL in exact Zeg
  ·obtain rfl:i=n:=by omega
   have hd:ks.drop i=[]:=drop_eq_nil_of_le Taa;rw[hd] at HS;go_wp2_with fail;go_end0;refine⟨rfl,?_⟩;rw[HS.out,tB];exact HD.out
theorem Tu (ρ:bp)(w:World)(σ:dX)(big:Bool)(h:ρ.at w σ big)(n:Nat)(hn:n<=1000000):
  Calls Tryz.prog 133 #[ρ.ptr,.int .i64 n] w λ e w'=>e=.returned (.bool (σ.head bk))/\iq ρ w w' (eW (may bk) σ) (big || decide (64 < n)):=by
 have CE:ρ.ptr=.pointer (some ⟨ρ.g,0,none⟩):=rfl;obtain⟨c0,c1,c2,c3,f1,f2,f3⟩:=h.facts;by_cases h64:64 < n
 ·have hB:=av.cC h.blk 3 (.bool true);have hg:w.grownBy (w.setCell ⟨ρ.g,3,none⟩ (.bool true)) (some ρ.g):=bu (aB (Below.refl _ _)) 3 _;have hat:ρ.at (w.setCell ⟨ρ.g,3,none⟩ (.bool true)) σ true:=h.set hB hg h.of;have hm:=tC ρ _ σ true hat ⟨#[44]⟩;have e1:(big || decide (64 < n))=true:=by simp[h64]
  have hn:(64:Int)< n:=by omega
  rw[e1];clear h hat hB e1;unfold bp.ptr at*;go_enter Tryz.func133,Tryz.ntmps133;go_wp2_with (first
   |(go_at_call 77;refine hm.mono ?_;rintro e w1 ⟨rfl,d1⟩))
  go_ret;exact⟨rfl,⟨d1.at_,ai hg d1.grown⟩⟩
 ·have hm:=tC ρ _ σ big h ⟨#[44]⟩;have e1:(big || decide (64 < n))=big:=by simp[h64]
  have hn:¬(64:Int)< n:=by omega
  rw[e1];clear h e1;unfold bp.ptr at*;go_enter Tryz.func133,Tryz.ntmps133;go_wp2_with (first
   |(go_at_call 77;refine hm.mono ?_;rintro e w1 ⟨rfl,d1⟩))
  go_ret;exact⟨rfl,d1⟩
theorem Ip:(Tryz.prog.info? 36).map (λ i=>(i.zero,i.size,i.bytes))=some (some (.agg #[.int .u8 0,.int .u8 0,.int .i64 0,.string ⟨#[]⟩,.string ⟨#[]⟩,.int .i64 0,.slice none 0 0]),7,88):=by exact Zhj
variable{W0:World}{row:Option Nat}
theorem iq.own(h:iq ρ W0 w σ big)(hg:ρ.g < W0.heap.size)(k:w.grownBy w' row)(hr:∀G,row=some G->W0.heap.size<=G):iq ρ W0 w' σ big:=by
 have hl:=h.at_.lt;have hs:=h.size;have ng:some ρ.g≠row:=λ e=>by have:=hr _ e.symm;omega
 have nl:some ρ.gl≠row:=λ e=>by have:=hr _ e.symm;omega
 refine⟨⟨h.at_.blk.grown k ng,hl,λ j t ht=>?_,h.at_.of,h.at_.small,h.at_.AL⟩,k.os.trans h.grown.os,k.tape.trans h.grown.tape,k.output.trans h.grown.output,Nat.le_trans hs k.size,λ i hi hne=>?_⟩
 ·have hc:=cell_of_heap (k.block ρ.gl Taa nl);obtain⟨h1,h2,h3,h4⟩:=h.at_.cell j t ht;exact⟨(hc _).trans h1,(hc _).trans h2,(hc _).trans h3,(hc _).trans h4⟩
 ·rw[k.block i Taa (λ e=>by have:=hr _ e.symm;omega)];exact h.grown.block i hi hne
variable{B:Nat}
theorem QB(k:w.grownBy w' row)(G:Nat)(hr:∀g,row=some g->g=G):∀b,Bx B G w b->(∀o,w'.cell? ⟨b,o,none⟩=w.cell? ⟨b,o,none⟩)/\Bx B G w' b:=λ b hb=>
 ⟨cell_of_heap (k.block b hb.2.1 (λ e=>hb.2.2 (hr _ e.symm))),hb.1,Nat.lt_of_lt_of_le hb.2.1 k.size,hb.2.2⟩
variable{base:Nat}{v:Value}{S:Nat->Prop}
theorem Od{f:α->List Value} {e:TypeId} {size:Nat}(hf:∀x,(f x).length=size)    {l:List α}(h:cJ f e size w base v l) (hS:∀g,base<=g->g < w.heap.size->S g):
  ∃A c,v=.slice A l.length c/\RL f size w S A l:=by
 obtain⟨A,c,hv,_⟩:=h.reads;refine⟨A,c,hv,?_⟩
 match l,h,hv with
 | [],_,_=>exact .inl rfl
 | x::l,h,hv=>obtain⟨g,c',hv',hb,hlt,_⟩:=h.cell hf (k:=0) (x:=x) rfl;rw[hv] at hv';injection hv' with hA _ _;refine .inr ⟨g,0,hA,hS g hb hlt,λ i y j u hy hu=>?_⟩;obtain⟨g2,c2,hv2,_,_,hc⟩:=h.cell hf hy;rw[hv] at hv2;injection hv2 with ED _ _;rw[hA] at ED;injection ED with ED;injection ED with ED _ _;subst ED;rw[Nat.zero_add];exact hc j u hu
def xH (lv:Nat)(t:Wd):Int:=(eR (opsL lv) [t]).getD 0
variable{lv:Nat}
theorem aey{t:Wd}(h1:t.k≠1)(h4:t.k≠4):xH lv t=0:=by
 unfold xH
 have:∀ks,eR ks [t]=none:=by
  intro ks
  induction ks with
  | nil=>rfl
  | cons a ks ih=>obtain⟨s,o⟩:=a;simp[eR,ar,gJ,h1,h4,ih]
 rw[this];rfl
theorem Qy{t:Wd}(h:t.k=1\/t.k=4):xH lv t=((opsL lv).lookup t.s).getD 0:=by
 unfold xH;congr 1;have hk:(t.k==1 || t.k==4)=true:=by rcases h with h | h <;> simp[h]
 generalize opsL lv=ks
 induction ks with
 | nil=>rfl
 | cons a ks ih=>obtain⟨s,o⟩:=a;simp only[eR,ar,gJ,hk,Bool.true_and,List.lookup];rw[ih];cases e:(t.s==s)<;> simp
def uL (lv:Nat)(t:Wd)(w:World)(e:Ending)(w':World):Prop:=e=.returned (.int .u8 (xH lv t))/\Below w.heap.size w w'
theorem pn (lv:Nat)(hlv:lv=0\/lv=1\/lv=4\/lv=5)(t:np)(w:World)(hk:t.w.k=1\/t.w.k=4):
  Calls Tryz.prog 182 #[.int .i64 lv,.agg (cn t)] w (uL lv t.w w):=by
 have HR:=hid (Qy (lv:=lv) hk);have hb:=aa w (.cells (cn t) 81);obtain⟨u0,u1,u2,u3,_⟩:=aN (av.new w 81 (cn t));unfold uL;unfold cn at*;rcases hk with hk | hk
 ·have n1:((t.w.k:Int) != 1)=false:=by simp;omega
  exact ZcJ
 ·have n1:((t.w.k:Int) != 1)=true:=by simp;omega
  have n2:((t.w.k:Int) != 4)=false:=by simp;omega
  exact ZcJ
def Tv:List (List UInt8):=[[61],[60,62],[60],[60,61],[62],[62,61]]
theorem XK{x:List UInt8} (hi:i < 6):∃y,Tv[i]?=some y/\((opsL 3).drop i).lookup x=if x==y then some ((10:Int)+i)else((opsL 3).drop (i+1)).lookup x:=by
 rcases(by omega:i=0\/i=1\/i=2\/i=3\/i=4\/i=5)with rfl | rfl | rfl | rfl | rfl | rfl <;> refine⟨_,rfl,?_⟩<;> simp[opsL,List.lookup,Ht,adU,adV,adW,adX,adY] <;> split <;> simp_all
theorem NZ (t:np)(w:World)(hk:t.w.k=1\/t.w.k=4):
  Calls Tryz.prog 182 #[.int .i64 (3:Nat),.agg (cn t)] w (uL 3 t.w w):=by
 have HR:=hid (Qy (lv:=3) hk);obtain⟨u0,u1,u2,u3,_⟩:=aN (av.new w 81 (cn t))
 have hn:(((t.w.k:Int) != 1)=false)\/((((t.w.k:Int) != 1)=true)/\(((t.w.k:Int) != 4)=false)):=by
  rcases hk with hk | hk
  ·exact .inl Tad
  ·exact .inr ⟨by simp;omega,by simp;omega⟩
 clear hk;have b1:=af.then (aa w (.cells (cn t) 81)) (aa _ (.cells (aP Tv) 9));have B1:=(av.new w 81 (cn t)).alloc (.cells (aP Tv) 9);have B2:=av.new (w.alloc (.cells (cn t) 81)) 9 (aP Tv);rw[World.size_alloc] at B2;have jB:=hid B1;have qc:=hid B2;have hb:=hid b1;clear B1 B2 b1;unfold uL;have ajN:aP Tv= #[.string ⟨#[61]⟩,.string ⟨#[60,62]⟩,.string ⟨#[60]⟩,.string ⟨#[60,61]⟩,.string ⟨#[62]⟩,.string ⟨#[62,61]⟩]:=rfl;rw[ajN] at jB qc hb;unfold cn at*;generalize xH 3 t.w=R at*
 rcases hn with n1 |⟨n1,n2⟩;all_goals
  go_enter Tryz.func182,Tryz.ntmps182;go_wp2_with fail;clear u0 u1 u2 u3;generalize (w.alloc _).alloc _=W at*;go_loopw [6] (λ u wr=>∃i:Nat,i<=6/\u=.int .i64 i/\Below W.heap.size W wr/\(opsL 3).lookup t.w.s=((opsL 3).drop i).lookup t.w.s) (λ u _=>6 - (intOf u).toNat);case atStart=>exact⟨0,Nat.zero_le _,rfl,Below.refl _ _,rfl⟩
  case round=>
   obtain⟨i,hi,rfl,iE,hlk⟩:=hrel;have U5:=hid hlk;have mR:=hid iE;clear hlk iE;by_cases hlt:i < 6
   ·obtain⟨y,hy,hstep⟩:=XK (x:=t.w.s) hlt;have HST:=hid hstep;have c2:=(qc.out.later mR.out).cell i;rw[<- ajN,show(aP Tv)[i]?=some (.string ⟨y.toArray⟩) by simp[aP,hy,strOf]] at c2;have c1:=(jB.out.later mR.out).cell 1;have Ep:i < 6:=hlt;clear hy hstep;cases he:(t.w.s==y)
    ·have HE:=hid he;have t1:(y==t.w.s)=false:=by rw[beq_eq_false_iff_ne] at he ⊢;exact λ e=>he e.symm
     clear he;go_wp2_with fail;go_region;go_wp2_with fail;go_roundw;case rel=>refine⟨i+1,by omega,by go_num,mR.out.drew,?_⟩;rw[U5.out,HST.out,HE.out];rfl
     case measure=>simp[intOf];omega
    ·have HE:=hid he;have t1:(y==t.w.s)=true:=by rw[beq_iff_eq] at he ⊢;exact he.symm
     clear he;go_wp2_with fail;go_region;go_wp2_with fail;go_ret;refine⟨?_,af.then hb.out mR.out.drew⟩;rw[HR.out,U5.out,HST.out,HE.out];refine kr ?_;rcases(by omega:i=0\/i=1\/i=2\/i=3\/i=4\/i=5)with rfl | rfl | rfl | rfl | rfl | rfl <;> rfl
   ·obtain rfl:i=6:=by omega
    go_wp2_with fail;go_ret;rw[HR.out,U5.out];exact⟨rfl,af.then hb.out mR.out⟩
theorem Oa (lv:Nat)(hlv:lv=0\/lv=1\/lv=3\/lv=4\/lv=5)(t:np)(w:World):
  Calls Tryz.prog 182 #[.int .i64 lv,.agg (cn t)] w (uL lv t.w w):=by
 by_cases hk:t.w.k=1\/t.w.k=4
 ·rcases hlv with rfl | rfl | rfl | rfl | rfl
  ·exact pn 0 Tae t w hk
  ·exact pn 1 Tae t w hk
  ·exact NZ t w hk
  ·exact pn 4 Tae t w hk
  ·exact pn 5 Tae t w hk
 ·have hb:=aa w (.cells (cn t) 81);obtain⟨u0,u1,u2,u3,_⟩:=aN (av.new w 81 (cn t));unfold uL;unfold cn at*;have HR:=hid (aey (lv:=lv) (λ e=>hk (.inl e)) (λ e=>hk (.inr e)));generalize xH lv t.w=R at*;have n1:((t.w.k:Int) != 1)=true:=by simp;omega
  have n2:((t.w.k:Int) != 4)=true:=by simp;omega
  go_enter Tryz.func182,Tryz.ntmps182;go_wp2_with fail;go_ret;rw[HR.out];exact⟨rfl,hb⟩
theorem CG (lv:Nat)(z:Int)(hz:z=lv)(hlv:lv=0\/lv=1\/lv=3\/lv=4\/lv=5)(t:np)(w:World):
  Calls Tryz.prog 182 #[.int .i64 z,.agg #[.int .u8 t.w.k,.string ⟨t.w.s.toArray⟩,.int .i64 t.w.n,.int .i64 t.p]] w λ e w'=>e=.returned (.int .u8 (xH lv t.w))/\Below w.heap.size w w':=by subst hz;exact Oa lv hlv t w
def FH (y:Ex):Obj:=.cells (aT y).toArray 36
def EB (y z:Ex):Obj:=.cells (aT y++aT z).toArray 36
def iH:List Nat->Nat
 | []=>0
 | a::l=>max a (iH l)
theorem Aj:∀(l:List Nat) (a:Nat),iH (l++ [a])=max (iH l) a
 | [],a=>by simp[iH]
 | b::l,a=>by simp only[cons_append,iH,Aj l a];omega
theorem zk{l:List Nat} {d:Nat}(h:l[i]?=some d):iH (l.take (i+1))=max (iH (l.take i)) d:=by rw[take_add_one,h];exact Aj _ _
theorem xK:∀ {l:List Nat} {d:Nat},d∈l->d<=iH l
 | a::l,d,h=>by
   rcases List.mem_cons.1 h with rfl | h
   ·simp only[iH];omega
   ·have:=xK h;simp only[iH];omega
theorem nE:∀(l:List Nat) (i:Nat),iH (l.take i)<=iH l
 | [],i=>by simp[iH]
 | a::l,0=>by simp[iH]
 | a::l,i+1=>by have:=nE l i;simp only[take_succ_cons,iH];omega
theorem po:∀ts:List Tr,Tr.ly ts=iH (ts.map Tr.depth)
 | []=>by simp[Tr.ly,iH]
 | t::ts=>by simp[Tr.ly,iH,po ts]
def rU (f:FuncId)(w:World)(y:Ex)(d:Nat):Prop:=∀W,Below w.heap.size w W->Calls Tryz.prog f #[dN y] W λ e w'=>e=.returned (.int .i64 d)/\Below W.heap.size W w'
theorem zdD.KaR(h:p:=by refine(hDx wr hwr).mono ?_;rintro e w' ⟨rfl,b'⟩;exact ZgX):p:=h
theorem zdf.KaI(h:p:=by
 go_enter Tryz.func21,Tryz.ntmps21;go_wp2_with fail;generalize W.alloc _=W1 at*;have mR:=hid hb;have HW:=hid hW;clear hb;go_loopw [3,4] (λ m iv wr=>∃i:Nat,i<=ys.length/\iv=.int .i64 i/\m=.int .i64 (iH (ds.take i))/\Below W1.heap.size W1 wr) (λ _ iv _=>ys.length - (intOf iv).toNat);case atStart=>exact⟨0,Nat.zero_le _,rfl,rfl,Below.refl _ _⟩
 case round=>
  obtain⟨i,hi,rfl,rfl,iE⟩:=hrel;have x6:=(HX.later iE).cell 6;simp only[Uaa] at x6;have hml:=nE ds i;have N8:=HM.out;by_cases hlt:i < ys.length
  ·open zdD in exact Zbj
  ·exact Zde):p:=h
theorem KL (w:World)(y:Ex)(ys:List Ex)(ds:List Nat)(S:Nat->Prop)(hS:∀b,S b->b < w.heap.size)(hn:y.n=ys.length)(hA:RL aT 7 w S y.A ys)(hd:ds.length=ys.length)(hD:∀(i:Nat) x d,ys[i]?=some x->ds[i]?=some d->rU 21 w x d)(hm:iH ds<=1000000)(hl:ys.length<=1000000000):rU 21 w y (iH ds+1):=by
 open zdf in exact Za6
theorem zdg.KaI(h:p:=by go_enter Tryz.func155,Tryz.ntmps155;exact Zak):p:=h
theorem KM (w:World)(y:Ex)(ys:List Ex)(ds:List Nat)(S:Nat->Prop)(hS:∀b,S b->b < w.heap.size)(hn:y.n=ys.length)(hA:RL aT 7 w S y.A ys)(hd:ds.length=ys.length)(hD:∀(i:Nat) x d,ys[i]?=some x->ds[i]?=some d->rU 155 w x d)(hm:iH ds<=1000000)(hl:ys.length<=1000000000):rU 155 w y (iH ds+1):=by
 open zdg in exact Za6
mutual
def Tr.thin:Tr->Prop
 | .mk op v name width args=>args.length<=1000000000/\Tr.ix args
def Tr.ix:List Tr->Prop
 | []=>True
 | t::ts=>t.thin/\Tr.ix ts
end
mutual
theorem Tr.ajS {w:World} {S:Nat->Prop}(hS:∀b,S b->b < w.heap.size):∀(t:Tr) (y:Ex),t.at_ w S y->t.thin->t.depth<=1000000->rU 21 w y t.depth
 | .mk op v name width args,y,h,ht,hd=>by unfold Tr.at_ at h;obtain⟨_,_,_,_,hn,ys,hr,ha⟩:=h;unfold Tr.thin at ht;simp only[Tr.depth] at hd ⊢;have hl:=Tr.eZ.length ha;rw[po] at hd ⊢;exact KL w y ys (args.map Tr.depth) S hS Ta9 hr (by simp[hl]) (Tr.ack hS args ys ha ht.2 Taa) Taa TaN
theorem Tr.ack {w:World} {S:Nat->Prop}(hS:∀b,S b->b < w.heap.size):∀(ts:List Tr) (ys:List Ex),Tr.eZ w S ts ys->Tr.ix ts->iH (ts.map Tr.depth)<=1000000->∀(i:Nat) x d,ys[i]?=some x->(ts.map Tr.depth)[i]?=some d->rU 21 w x d
 | [],ys,h,_,_,i,x,d,hx,hd=>by simp at hd
 | t::ts,ys,h,ht,hm,i,x,d,hx,hd=>by
   unfold Tr.eZ at h;obtain⟨y,ys',rfl,h1,h2⟩:=h;unfold Tr.ix at ht;simp only[map_cons,iH] at hm
   match i,hx,hd with
   | 0,hx,hd=>simp at hx hd;subst hx hd;exact Tr.ajS hS t y h1 ht.1 Taa
   | i+1,hx,hd=>exact Tr.ack hS ts ys' h2 ht.2 Taa i x d TaI (by simpa using hd)
end
mutual
theorem Tr.ajT {w:World} {S:Nat->Prop}(hS:∀b,S b->b < w.heap.size):∀(t:Tr) (y:Ex),t.at_ w S y->t.thin->t.depth<=1000000->rU 155 w y t.depth
 | .mk op v name width args,y,h,ht,hd=>by unfold Tr.at_ at h;obtain⟨_,_,_,_,hn,ys,hr,ha⟩:=h;unfold Tr.thin at ht;simp only[Tr.depth] at hd ⊢;have hl:=Tr.eZ.length ha;rw[po] at hd ⊢;exact KM w y ys (args.map Tr.depth) S hS Ta9 hr (by simp[hl]) (Tr.acm hS args ys ha ht.2 Taa) Taa TaN
theorem Tr.acm {w:World} {S:Nat->Prop}(hS:∀b,S b->b < w.heap.size):∀(ts:List Tr) (ys:List Ex),Tr.eZ w S ts ys->Tr.ix ts->iH (ts.map Tr.depth)<=1000000->∀(i:Nat) x d,ys[i]?=some x->(ts.map Tr.depth)[i]?=some d->rU 155 w x d
 | [],ys,h,_,_,i,x,d,hx,hd=>by simp at hd
 | t::ts,ys,h,ht,hm,i,x,d,hx,hd=>by
   unfold Tr.eZ at h;obtain⟨y,ys',rfl,h1,h2⟩:=h;unfold Tr.ix at ht;simp only[map_cons,iH] at hm
   match i,hx,hd with
   | 0,hx,hd=>simp at hx hd;subst hx hd;exact Tr.ajT hS t y h1 ht.1 Taa
   | i+1,hx,hd=>exact Tr.acm hS ts ys' h2 ht.2 Taa i x d TaI (by simpa using hd)
end
def wR:Obj:=.cells #[.int .u8 0,.int .u8 0,.int .i64 0,.string ⟨#[]⟩,.string ⟨#[]⟩,.int .i64 0,.slice none 0 0] 36
variable{q:Nat}{y:Ex}
theorem ej(h:av w q 36 (aT y).toArray):
  w.cell? ⟨q,0,none⟩=some (.int .u8 y.op)/\w.cell? ⟨q,1,none⟩=some (.int .u8 y.v.k)/\w.cell? ⟨q,2,none⟩=some (.int .i64 y.v.n)/\w.cell? ⟨q,3,none⟩=some (.string y.v.s)/\w.cell? ⟨q,4,none⟩=some (.string y.name)/\w.cell? ⟨q,5,none⟩=some (.int .i64 y.width)/\w.cell? ⟨q,6,none⟩=some (.slice y.A y.n y.c):=
 ⟨h.cell 0,h.cell 1,h.cell 2,h.cell 3,h.cell 4,h.cell 5,h.cell 6⟩
variable{T:TypeId}{a b d e f:Value}
theorem eL{c g:Value}(h:av w q T #[a,b,c,d,e,f,g]):
  w.cell? ⟨q,0,none⟩=some a/\w.cell? ⟨q,1,none⟩=some b/\w.cell? ⟨q,2,none⟩=some c/\w.cell? ⟨q,3,none⟩=some d/\w.cell? ⟨q,4,none⟩=some e/\w.cell? ⟨q,5,none⟩=some f/\w.cell? ⟨q,6,none⟩=some g:=
 ⟨h.cell 0,h.cell 1,h.cell 2,h.cell 3,h.cell 4,h.cell 5,h.cell 6⟩
variable{cs:Array Value}
theorem gZ(h:av w q 36 cs):
  w.frozen? ⟨q,0,none⟩=false/\w.frozen? ⟨q,1,none⟩=false/\w.frozen? ⟨q,2,none⟩=false/\w.frozen? ⟨q,3,none⟩=false/\w.frozen? ⟨q,4,none⟩=false/\w.frozen? ⟨q,5,none⟩=false/\w.frozen? ⟨q,6,none⟩=false:=
 ⟨h.frozen 0,h.frozen 1,h.frozen 2,h.frozen 3,h.frozen 4,h.frozen 5,h.frozen 6⟩
def gL (w:World)(q:Nat)(y:Ex):World:=((((((w.setCell ⟨q,0,none⟩ (.int .u8 y.op)).setCell ⟨q,1,none⟩ (.int .u8 y.v.k)).setCell ⟨q,2,none⟩ (.int .i64 y.v.n)).setCell ⟨q,3,none⟩ (.string y.v.s)).setCell ⟨q,4,none⟩ (.string y.name)).setCell ⟨q,5,none⟩ (.int .i64 y.width)).setCell ⟨q,6,none⟩ (.slice y.A y.n y.c)
theorem ia{c g:Value}(h:av w q T #[a,b,c,d,e,f,g])(y:Ex):av (gL w q y) q T (aT y).toArray:=by have:=((((((h.cC 0 (.int .u8 y.op)).cC 1 (.int .u8 y.v.k)).cC 2 (.int .i64 y.v.n)).cC 3 (.string y.v.s)).cC 4 (.string y.name)).cC 5 (.int .i64 y.width)).cC 6 (.slice y.A y.n y.c);exact Zdt
theorem Tw{p:Nat}  (h:av w p T cs)(hp:p≠q)(y:Ex):av (gL w q y) p T cs:=
 ((((((h.far (p:=⟨q,0,none⟩) hp _).far (p:=⟨q,1,none⟩) hp _).far (p:=⟨q,2,none⟩) hp _).far (p:=⟨q,3,none⟩) hp _).far (p:=⟨q,4,none⟩) hp _).far (p:=⟨q,5,none⟩) hp _).far (p:=⟨q,6,none⟩) hp _
variable{W:World}
theorem iq.gL(h:iq ρ W w σ big)(hW:ρ.g < W.heap.size)(hq:W.heap.size<=q)(y:Ex):iq ρ W (gL w q y) σ big:=
 ((((((h.far hW hq 0 _).far hW hq 1 _).far hW hq 2 _).far hW hq 3 _).far hW hq 4 _).far hW hq 5 _).far hW hq 6 _
theorem acd{S:World->Nat->Prop}(hs:∀(w:World) (i:Nat) (u:Value),∀b,S w b->(∀o,(w.setCell ⟨q,i,none⟩ u).cell? ⟨b,o,none⟩=w.cell? ⟨b,o,none⟩)/\S (w.setCell ⟨q,i,none⟩ u) b)(y:Ex):∀b,S w b->(∀o,(Go.Proofs.YtehhdlgjfdnafaaGreatDoor.gL w q y).cell? ⟨b,o,none⟩=w.cell? ⟨b,o,none⟩)/\S (Go.Proofs.YtehhdlgjfdnafaaGreatDoor.gL w q y) b:=by intro b hb;obtain⟨c0,s0⟩:=hs w 0 (.int .u8 y.op) b hb;obtain⟨c1,s1⟩:=hs _ 1 (.int .u8 y.v.k) b s0;obtain⟨c2,s2⟩:=hs _ 2 (.int .i64 y.v.n) b s1;obtain⟨c3,s3⟩:=hs _ 3 (.string y.v.s) b s2;obtain⟨c4,s4⟩:=hs _ 4 (.string y.name) b s3;obtain⟨c5,s5⟩:=hs _ 5 (.int .i64 y.width) b s4;obtain⟨c6,s6⟩:=hs _ 6 (.slice y.A y.n y.c) b s5;exact⟨λ o=>(c6 o).trans ((c5 o).trans ((c4 o).trans ((c3 o).trans ((c2 o).trans ((c1 o).trans (c0 o)))))),s6⟩
variable{t:Tr}
theorem Tr.at_.gL(h:t.at_ w (eC B w) y)(hq:q < B)(z:Ex):t.at_ (gL w q z) (eC B (Go.Proofs.YtehhdlgjfdnafaaGreatDoor.gL w q z)) y:=Tr.at_.keep (acd (S:=λ w=>eC B w) (λ w i u=>pc hq i u) z) t y h
theorem iF (ρ:bp)(w:World)(σ:dX)(big:Bool)(h:ρ.at w σ big)(s:ByteArray)(hh:σ.head s.data.toList=false):
  Calls Tryz.prog 77 #[ρ.ptr,.string s] w λ e w'=>e=.returned (.bool false)/\iq ρ w w' σ big:=by have:=tC ρ w σ big h s;rw[hh,lH hh] at this;exact this
theorem xI (ρ:bp)(w:World)(σ:dX)(big:Bool)(h:ρ.at w σ big)(s:ByteArray)(hh:σ.head s.data.toList=true):
  Calls Tryz.prog 77 #[ρ.ptr,.string s] w λ e w'=>e=.returned (.bool true)/\iq ρ w w' (.good σ.words.tail) big:=by have:=tC ρ w σ big h s;rw[hh,pI hh] at this;exact this
def QH (ρ:bp)(W:World)(t:Tr)(r:aI)(e:Ending)(w':World):Prop:=∃y,e=.returned (dN y)/\t.at_ w' (eC W.heap.size w') y/\iq ρ W w' (.good r) false
def fI (z:Int)(l:aI)(t:Tr)(r:aI):Prop:=∀(ρ:bp) (w:World),ρ.at w (.good l) false->Calls Tryz.prog 163 #[ρ.ptr,.int .i64 z] w (QH ρ w t r)
def OD (l:aI)(t:Tr)(r:aI):Prop:=∀(ρ:bp) (w:World),ρ.at w (.good l) false->Calls Tryz.prog 181 #[ρ.ptr] w (QH ρ w t r)
variable{r:aI}
theorem QH.put(hg:ρ.g < w.heap.size)(hq:w.heap.size<=q)(hd:iq ρ w W (.good r) false)(ht:t.at_ W (eC (q+1) W) y):QH ρ w t r (.returned (dN y)) (gL W q y):=
 ⟨y,rfl,(ht.gL (Nat.lt_succ_self q) y).more Taa,hd.gL hg hq y⟩
variable{l:aI}
theorem acs(hn:ar ei l=false)(H:fI 3 l t r):fI 2 l t r:=by intro ρ w h;have bj:=h.nt;have hb:=aa w wR;have h0:=h.later hb;have hm:=iF ρ _ _ false h0 ⟨#[110,111,116]⟩ hn;exact ZaL
theorem acu(hn:ar dB l=false)(H:fI 7 l t r):fI 6 l t r:=by intro ρ w h;have bj:=h.nt;have hb:=aa w wR;have h0:=h.later hb;have hm:=iF ρ _ _ false h0 ⟨#[45]⟩ hn;exact ZaL
theorem zcB.Kay(h:p:=by
 unfold wR at*;go_enter Tryz.func163,Tryz.ntmps163;go_wp2_with fail;refine(H ρ _ h0).mono ?_;rintro e w2 ⟨y,rfl,ht,d2⟩;unfold dN aT;have jS:=d2.blk HQ.out Taa;have mD:=hid jS;obtain⟨z0,z1,z2,z3,z4,z5,z6⟩:=gZ jS;obtain⟨y0,y1,y2,y3,y4,y5,y6⟩:=eL jS;have D2:=hid ((iq.aC h hb).trans d2);have hs2:=d2.size;clear jS d2;go_wp2_with fail;have HP:=ia mD.out y;have HR:=ej HP;unfold gL at HR;obtain⟨r0,r1,r2,r3,r4,r5,r6⟩:=HR;refine bodyPost_ret (v:=dN y) Zci rfl ?_
 ·exact QH.put bj (Nat.le_refl _) D2.out (ht.more Taa)):p:=h
theorem acv(H:OD l t r):fI 7 l t r:=by intro ρ w h;have bj:=h.nt;have hb:=aa w wR;have h0:=h.later hb;open zcB in exact ZaR
variable{u:Wd}
theorem za4.Kag(h:p:=by
 have KV:=HQW.out.later hW;have HXW:=HX.out.later hW;obtain⟨z0,z1,z2,z3,z4,z5,z6⟩:=gZ KV;obtain⟨y0,y1,y2,y3,y4,y5,y6⟩:=eL KV;obtain⟨x0,x1,x2,x3,x4,x5,x6⟩:=eL HXW;have et:=hid KV;have hqb:=KV.lt;clear KV HXW;go_wp2_with fail;have HP:=ia et.out y;have HR:=ej HP;unfold gL at HR;obtain⟨r0,r1,r2,r3,r4,r5,r6⟩:=HR;refine bodyPost_ret (v:=dN y) Zci rfl ?_
 ·exact QH.put bj (Nat.le_refl _) (HD.out.later hW) ((HT.out.later hW).more (Nat.le_refl _))):p:=h
theorem zgR.Kb3(h:p:=by
 have HBZ:=hid (λ tk=>CG lv z hz Taa tk);have Yr:=hid hop;have HH:=hid H;clear hlv hz hop H;unfold wR at*;unfold bp.ptr;go_enter Tryz.func163,Tryz.ntmps163;go_wp2_with (first
  |(go_at_call 163;refine(HH.out ρ _ h0).mono ?_;rintro e w2 ⟨y,rfl,ht,d2⟩;unfold dN aT))
 have hD:=((iq.aC h hb).trans d2).later (aa w2 (.cells #[.int .u8 y.op,.int .u8 y.v.k,.int .i64 y.v.n,.string y.v.s,.string y.name,.int .i64 y.width,.slice y.A y.n y.c] 36));have hX:=av.new w2 36 #[.int .u8 y.op,.int .u8 y.v.k,.int .i64 y.v.n,.string y.v.s,.string y.name,.int .i64 y.width,.slice y.A y.n y.c];have hQ:=(d2.blk HQ.out Taa).alloc (.cells #[.int .u8 y.op,.int .u8 y.v.k,.int .i64 y.v.n,.string y.v.s,.string y.name,.int .i64 y.width,.slice y.A y.n y.c] 36);have hT:=(ht.later (aa w2 (.cells #[.int .u8 y.op,.int .u8 y.v.k,.int .i64 y.v.n,.string y.v.s,.string y.name,.int .i64 y.width,.slice y.A y.n y.c] 36))).more (B':=w.heap.size+1) Taa;have JM:w.heap.size+1<=w2.heap.size:=by have:=d2.size;omega
 generalize w2.alloc _=W at*;generalize w2.heap.size=qx at*;have HD:=hid hD;have HX:=hid hX;have HQW:=hid hQ;have HT:=hid hT;clear hD hX hQ hT ht d2 h0 hb HQ HH;go_loopg [] 0 (λ k wr=>wr=W);case atStart=>rfl
 case round=>
  obtain rfl:_=W:=hrel;obtain⟨tk,pl,bd,hpl,hlt,aeP,AP,fA,hg,Ai,vv,hp⟩:=HD.out.at_.mh;obtain⟨r',sF⟩:=hg _ rfl;obtain rfl:u=tk.w:=by injection sF
  have vX:bd < 0:=by simpa [dX.ou] using fA
  have HP:=hid hp;have c2:=hp.c2;have Ys:=HBZ.out tk;rw[Yr.out] at Ys;clear hpl hg fA AP hp sF;open za4 in exact Zaj):p:=h
theorem zcC.Kay(h:p:=by open zgR in exact Zem):p:=h
theorem ml(lv:Nat)(hlv:lv=0\/lv=1\/lv=4\/lv=5)   (hop:xH lv u=0)(H:fI ((lv:Int)+1) l t (u::r)):fI lv l t (u::r):=by intro ρ w h;obtain⟨z,hz⟩:∃z:Int,z=lv:=⟨_,rfl⟩;rw[<- hz] at H ⊢;have bj:=h.nt;have hb:=aa w wR;have h0:=h.later hb;open zcC in exact ZaR
variable{k:Nat}
theorem Ts{n:Nat}(h:pl=n - k)(hk:k<=n):(n:Int) - k=pl:=by omega
theorem zha.Kca(h:p:=by
 have HWR:=hid hwr;have HPL:=hid hpl;have HG:=hid hg;have acb:=hid fA;clear hwr hpl hg fA AP;rw[CE];go_enter Tryz.func130,Tryz.ntmps130;go_wp2_with fail;go_region;clear c0 c1 c2 d0 d1 d2 d3 y0 y1 y2 z0 z1 z2 z3 x0 v0 v1 v2 v3;obtain⟨u0,u1,u2,u3,_⟩:=aN HT;clear HT;unfold cn at u0 u1 u2 u3 hb x1 x2 Qx HF HWR HB HD;generalize (w.alloc _).drew=W at*;have hwr:=HWR.out;clear HWR;rw[CE] at hwr;have hres:=EA ⟨t.w.s.toArray⟩ W;have jk:(⟨t.w.s.toArray⟩:ByteArray).data.toList=t.w.s:=by simp
 rw[jk] at hres;by_cases vX:bd < 0
 ·obtain⟨l,rfl⟩:∃l,σ=.good l:=by
   match σ,acb.out with
   | .good l,_=>exact⟨l,rfl⟩
   | .bad m,fA=>simp[dX.ou] at fA;omega
  obtain⟨r,rfl⟩:=HG.out l rfl;have e1:(pl:Int)+1=(ρ.n:Int) - r.length:=by rw[HPL.out];simp only[dX.left,length_cons] at*;omega
  by_cases hk:t.w.k=1
  ·cases hr:kO t.w.s
   ·have HC:=hid (show t.w.k=1/\kO t.w.s=false from⟨hk,hr⟩);have hd0:=λ(W2:World) (hb2:Below W.heap.size W W2)=>bp.at.step (HF.out.later hb2) (show t.w.k≠0 by omega)
    have WR:=hid hd0;have hs0:=λ(W2:World) (hb2:Below W.heap.size W W2)=>(HB.out.later hb2).cell 1
    have HS0:=hid hs0;have HX:=hid (λ(W2:World) (hb2:Below W.heap.size W W2)=>(HB.out.later hb2).far (p:=⟨ρ.g,1,none⟩) Tad (.int .i64 ((ρ.n:Int) - r.length)));rw[hr] at hres;have et:=hid hres;clear hd0 hs0 hr hres;go_wp2_with (go_at_call 91;go_loud (refine et.out.mono ?_;rintro e w1 ⟨rfl,b1⟩;obtain⟨q0,q1,q2,q3,p1,p2,p3⟩:=(HF.out.later b1).facts;have s1:=(HX.out w1 b1).cell 1;have e2:(ρ.n:Int) - (dX.good (t.w::r)).left=pl:=(Ts HPL.out sD.2);rw[e2] at q1));go_ret;refine⟨⟨t.w.s.toArray⟩,rfl,?_,NW _ _⟩;rw[uJ,if_pos HC.out];exact(HD.out.later b1).trans (WR.out w1 b1)
   ·have e3:eW cD (.good (t.w::r))=.bad (r.length+1):=by rw[uJ,if_neg (by rw[hr];simp)]
    have uK:=hid e3;rw[hr] at hres;have et:=hid hres;clear hr e3 hres;go_wp2_with (first
     |(go_at_call 91;refine et.out.mono ?_;rintro e w1 ⟨rfl,b1⟩)
     |(go_at_call 78;refine(vW ρ _ _ big (HF.out.later b1)).mono ?_;rintro e w2 ⟨rfl,d1⟩))
    go_ret;refine⟨ByteArray.empty,rfl,?_,xG uK.out _⟩;rw[uK.out];exact(HD.out.later b1).trans d1
  ·have e3:eW cD (.good (t.w::r))=.bad (r.length+1):=by rw[uJ,if_neg (by simp[hk])]
   have uK:=hid e3;have g1:((t.w.k:Int) != 1)=true:=by simp;omega
   clear e3;go_wp2_with (go_at_call 78;refine hwr.mono ?_;rintro e w1 ⟨rfl,d1⟩);go_ret;refine⟨ByteArray.empty,rfl,?_,xG uK.out _⟩;rw[uK.out];exact HD.out.trans d1
 ·obtain⟨m,rfl⟩:∃m,σ=.bad m:=by
   match σ,acb.out with
   | .good l,fA=>simp[dX.ou] at fA;omega
   | .bad m,_=>exact⟨m,rfl⟩
  go_wp2_with (go_at_call 78;refine hwr.mono ?_;rintro e w1 ⟨rfl,d1⟩);go_ret;exact⟨ByteArray.empty,rfl,HD.out.trans d1,Tj _ _ _⟩):p:=h
theorem U4 (ρ:bp)(w:World)(σ:dX)(big:Bool)(h:ρ.at w σ big):
  Calls Tryz.prog 130 #[ρ.ptr] w λ e w'=>∃x:ByteArray,e=.returned (.string x)/\iq ρ w w' (eW cD σ) big/\qm cD σ x:=by obtain⟨t,pl,bd,hpl,hlt,hsm,AP,fA,hg,Ai,vv,hp⟩:=h.mh;have U3:=hp.later (aa w zg);have hp3:=hp.later ((aa w (.cells (cn t) 81)).drew);have hb:=(aa w (.cells (cn t) 81)).drew;have HT:=(av.new w 81 (cn t)).drew;have HB:=hid HT;have HF:=hid (h.later hb);have HD:=hid (iq.aC h hb);have Qx:=(h.later hb).facts.2.2.2.2.1;have CE:ρ.ptr=.pointer (some ⟨ρ.g,0,none⟩):=rfl;have hwr:=vW ρ _ σ big (h.later hb);have sD:=h.left;have bj:=h.nt;clear h;open zha in exact Zey
end Go.Proofs.YtehhdlgjfdnafaaGreatDoor
