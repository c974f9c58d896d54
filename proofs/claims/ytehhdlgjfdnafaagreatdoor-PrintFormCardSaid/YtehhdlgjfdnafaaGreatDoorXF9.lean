/- Parts of the proof. -/
import Derived.Test.YtehhdlgjfdnafaaGreatDoorXF8
namespace Go.Proofs.YtehhdlgjfdnafaaGreatDoor
variable{p:Prop}
set_option maxHeartbeats 90000000
set_option maxRecDepth 100000
open Go.Lib (hid)
open Go.ChangeShapes Go.WideShapes Go.ChangeAt Go.RowKit List
set_option linter.unusedVariables false
set_option linter.unusedSimpArgs false
structure bw where
 g:Nat
 gl:Nat
 c:Nat
 BF:List na
def bw.n (ρ:bw):Nat:=ρ.BF.length
def bw.ws (ρ:bw):aK:=ρ.BF.map (·.w)
def bw.bad (ρ:bw):eu->Int
 | .good _=> -1
 | .bad m=>(ρ.n:Int) - m
def bw.cells (ρ:bw)(σ:eu)(big:Bool):Array Value:= #[.slice (some ⟨ρ.gl,0,none⟩) ρ.n ρ.c,.int .i64 ((ρ.n:Int) - σ.left),.int .i64 (ρ.bad σ),.bool big]
structure bw.at (ρ:bw) (w:World) (σ:eu) (big:Bool):Prop where
 blk:av w ρ.g 125 (ρ.cells σ big)
 lt:ρ.gl < ρ.g
 cell:∀k t,ρ.BF[k]?=some t->w.cell? ⟨ρ.gl,k*4,none⟩=some (.int .u8 t.w.k)/\w.cell? ⟨ρ.gl,k*4+1,none⟩=some (.string ⟨t.w.s.toArray⟩)/\w.cell? ⟨ρ.gl,k*4+2,none⟩=some (.int .i64 t.w.n)/\w.cell? ⟨ρ.gl,k*4+3,none⟩=some (.int .i64 t.p)
 of:σ.of ρ.ws
 small:ρ.n<=5000
 yo:∀t∈ρ.BF,0<=t.w.n/\t.w.n<=9223372036854775807
section
variable {ρ:bw} {w w':World} {σ:eu} {big:Bool}
theorem bw.at.later (h:ρ.at w σ big)(hb:Below w.heap.size w w'):ρ.at w' σ big:=
 ⟨h.blk.later hb,h.lt,λ k t hk=>by
   have hl:ρ.gl < w.heap.size:=Nat.lt_trans h.lt h.blk.lt
   have c:=λ o=>hb.cell (p:=⟨ρ.gl,o,none⟩) hl
   obtain⟨h1,h2,h3,h4⟩:=h.cell k t hk
   exact⟨(c _).trans h1,(c _).trans h2,(c _).trans h3,(c _).trans h4⟩,h.of,h.small,h.yo⟩
theorem bw.at.od (h:ρ.at w σ big):ρ.g < w.heap.size:=h.blk.lt
theorem bw.at.set {Gv:eu} {OT:Bool}(h:ρ.at w σ big)(hw:av w' ρ.g 125 (ρ.cells Gv OT))(hg:w.grownBy w' (some ρ.g))(ho:Gv.of ρ.ws):ρ.at w' Gv OT:=
 ⟨hw,h.lt,λ k t hk=>by
   have hl:ρ.gl < w.heap.size:=Nat.lt_trans h.lt h.blk.lt
   have c:=cell_of_heap (hg.block ρ.gl hl (λ e=>by injection e with e;have:=h.lt;omega))
   obtain⟨h1,h2,h3,h4⟩:=h.cell k t hk
   exact⟨(c _).trans h1,(c _).trans h2,(c _).trans h3,(c _).trans h4⟩,ho,h.small,h.yo⟩
theorem bw.at.left (h:ρ.at w σ big):0 < σ.left/\σ.left<=ρ.n:=by have:=eu.Ji h.of;simpa [bw.ws,bw.n] using this
theorem bw.at.far {q:Nat}(h:ρ.at w σ big)(hq:ρ.g < q)(i:Nat)(u:Value):ρ.at (w.setCell ⟨q,i,none⟩ u) σ big:=
 ⟨h.blk.far (p:=⟨q,i,none⟩) Tae u,h.lt,λ k t hk=>by
   have c:=cell_of_heap (Below.heap_setCell w ⟨q,i,none⟩ u ρ.gl (by have:=h.lt;simp;omega))
   obtain⟨h1,h2,h3,h4⟩:=h.cell k t hk
   exact⟨(c _).trans h1,(c _).trans h2,(c _).trans h3,(c _).trans h4⟩,h.of,h.small,h.yo⟩
theorem bw.at.next (h:ρ.at w σ big):∃t:na,ρ.BF[ρ.n - σ.left]?=some t/\(∀l,σ=.good l->∃r,l=t.w::r):=by
 obtain⟨h1,h2⟩:=h.left;have hlt:ρ.n - σ.left < ρ.BF.length:=by unfold bw.n at*;omega
 refine⟨_,getElem?_eq_getElem hlt,?_⟩;rintro l rfl;obtain⟨t,r,hl,hk⟩:=eu.of_next h.of;refine⟨r,?_⟩;have e:ρ.ws.length - l.length=ρ.n - (eu.good l).left:=by simp[bw.ws,bw.n,eu.left]
 exact ZdD
end
structure iJ (ρ:bw) (W w':World) (Gv:eu) (OT:Bool):Prop where
 at_:ρ.at w' Gv OT
 grown:W.grownBy w' (some ρ.g)
section
variable {ρ:bw} {W w w':World} {σ Gv:eu} {big OT:Bool}
theorem iJ.refl (h:ρ.at w σ big):iJ ρ w w σ big:=⟨h,aD (Below.refl _ _)⟩
theorem iJ.aF (h:ρ.at w σ big)(hb:Below w.heap.size w w'):iJ ρ w w' σ big:=⟨h.later hb,aD hb⟩
theorem iJ.later (h:iJ ρ W w σ big)(hb:Below w.heap.size w w'):iJ ρ W w' σ big:=⟨h.at_.later hb,ai h.grown (aD hb)⟩
theorem iJ.trans (h:iJ ρ W w σ big)(k:iJ ρ w w' Gv OT):iJ ρ W w' Gv OT:=⟨k.at_,ai h.grown k.grown⟩
theorem iJ.lt (h:iJ ρ W w σ big):ρ.g < w.heap.size:=h.at_.od
theorem iJ.size (h:iJ ρ W w σ big):W.heap.size<=w.heap.size:=h.grown.size
theorem iJ.far {q:Nat}(h:iJ ρ W w σ big)(hW:ρ.g < W.heap.size)(hq:W.heap.size<=q)(i:Nat)(u:Value):iJ ρ W (w.setCell ⟨q,i,none⟩ u) σ big:=by exact Zci
theorem iJ.blk {q:Nat} {t:TypeId} {cs:Array Value}(h:iJ ρ W w σ big)(hq:av W q t cs)(hg:q≠ρ.g):av w q t cs:=hq.grown h.grown λ e=>hg Ta8
end
def bw.ptr (ρ:bw):Value:=.pointer (some ⟨ρ.g,0,none⟩)
variable{ρ:bw}{w:World}{σ:eu}{big:Bool}
theorem bw.at.facts(h:ρ.at w σ big):
  w.cell? ⟨ρ.g,0,none⟩=some (.slice (some ⟨ρ.gl,0,none⟩) ρ.n ρ.c)/\w.cell? ⟨ρ.g,1,none⟩=some (.int .i64 ((ρ.n:Int) - σ.left))/\w.cell? ⟨ρ.g,2,none⟩=some (.int .i64 (ρ.bad σ))/\w.cell? ⟨ρ.g,3,none⟩=some (.bool big)/\
  w.frozen? ⟨ρ.g,1,none⟩=false/\w.frozen? ⟨ρ.g,2,none⟩=false/\w.frozen? ⟨ρ.g,3,none⟩=false:=
 ⟨h.blk.cell 0,h.blk.cell 1,h.blk.cell 2,h.blk.cell 3,h.blk.frozen 1,h.blk.frozen 2,h.blk.frozen 3⟩
theorem bw.at.place(h:ρ.at w σ big):((ρ.n:Int) - σ.left)=((ρ.n - σ.left:Nat):Int):=by have:=h.left;omega
theorem bw.at.Rm(h:ρ.at w σ big):decide (ρ.bad σ < 0)=σ.pn:=by
 have hl:=h.left
 match σ,hl with
 | .bad m,hl=>have e:ρ.bad (.bad m)=(ρ.n:Int) - m:=rfl;have e2:(eu.bad m).left=m:=rfl;rw[e2] at hl;rw[e];simp only[eu.pn,decide_eq_false_iff_not];omega
 | .good l,_=>rfl
variable{s:ByteArray}
theorem Lt{t:Wd}:gV s.data.toList t=((t.k==1 || t.k==4)&&(t.s==s.toList)):=by unfold gV;rw[ByteArray.toList_eq]
def zM:Obj:=.cells #[.int .u8 0,.string ⟨#[]⟩,.int .i64 0,.int .i64 0] 81
def cA (t:na):Array Value:= #[.int .u8 t.w.k,.string ⟨t.w.s.toArray⟩,.int .i64 t.w.n,.int .i64 t.p]
structure aas (ρ:bw) (w:World) (t:na) (pl:Nat) (bd:Int):Prop where
 c0:w.cell? ⟨ρ.g,0,none⟩=some (.slice (some ⟨ρ.gl,0,none⟩) ρ.n ρ.c)
 c1:w.cell? ⟨ρ.g,1,none⟩=some (.int .i64 pl)
 c2:w.cell? ⟨ρ.g,2,none⟩=some (.int .i64 bd)
 d0:w.cell? ⟨ρ.gl,pl*4,none⟩=some (.int .u8 t.w.k)
 d1:w.cell? ⟨ρ.gl,pl*4+1,none⟩=some (.string ⟨t.w.s.toArray⟩)
 d2:w.cell? ⟨ρ.gl,pl*4+2,none⟩=some (.int .i64 t.w.n)
 d3:w.cell? ⟨ρ.gl,pl*4+3,none⟩=some (.int .i64 t.p)
variable{w':World}{pl:Nat}{bd:Int}
theorem aas.later{t:na}  (h:aas ρ w t pl bd)(hb:Below w.heap.size w w'):aas ρ w' t pl bd:=by obtain⟨h0,h1,h2,h3,h4,h5,h6⟩:=h;exact⟨(hb.cell (ax h0)).trans h0,(hb.cell (ax h1)).trans h1,(hb.cell (ax h2)).trans h2,(hb.cell (ax h3)).trans h3,(hb.cell (ax h4)).trans h4,(hb.cell (ax h5)).trans h5,(hb.cell (ax h6)).trans h6⟩
theorem bw.at.mN(h:ρ.at w σ big):∃(t:na) (pl:Nat) (bd:Int),pl=ρ.n - σ.left/\pl < ρ.n/\ρ.n<=5000/\bd=ρ.bad σ/\decide (bd < 0)=σ.pn/\(∀l,σ=.good l->∃r,l=t.w::r)/\0<=t.w.n/\t.w.n<=9223372036854775807/\aas ρ w t pl bd:=by obtain⟨t,ht,hg⟩:=h.next;obtain⟨d0,d1,d2,d3⟩:=h.cell _ t ht;obtain⟨c0,c1,c2,c3,f1,f2,f3⟩:=h.facts;have hl:=h.left;rw[h.place] at c1;have hn:=h.yo t (mem_of_getElem? ht);exact⟨t,_,_,rfl,by omega,h.small,rfl,h.Rm,hg,hn.1,hn.2,c0,c1,c2,d0,d1,d2,d3⟩
theorem zgG.Kb3(h:p:=by
 go_enter Tryz.func126,Tryz.ntmps126;go_wp2_with fail;go_region;clear c0 c1 c2 d0 d1 d2 d3 y0 y1 y2 z0 z1 z2 z3 x0 x1 v0 v1 v2 v3;obtain⟨u0,u1,u2,u3,_⟩:=aO HT;unfold cA at x2 u0 u1 u2 u3 hb;generalize (w.alloc _).drew=W at*;go_wp2_with fail
 all_goals
  go_ret;refine⟨dv ?_,hb⟩;rw[xA.out];generalize (t.w.s==s.toList)=X;cases X <;> rw[Bool.eq_iff_iff] <;> simp <;> omega):p:=h
theorem zN (ρ:bw)(w:World)(σ:eu)(big:Bool)(h:ρ.at w σ big)(s:ByteArray):
  Calls Tryz.prog 126 #[ρ.ptr,.string s] w λ e w'=>e=.returned (.bool (σ.head s.data.toList))/\Below w.heap.size w w':=by
 obtain⟨t,pl,bd,hpl,hlt,hsm,BH,fG,hg,Bd,Cf,hp⟩:=h.mN;have hp2:=hp.later (aa w zM);have hp3:=hp.later ((aa w (.cells (cA t) 81)).drew)
 have hHD:σ.head s.data.toList=(decide (bd < 0)&&((t.w.k==1 || t.w.k==4)&&(t.w.s==s.toList))):=by
  rw[fG]
  match σ with
  | .bad m=>rfl
  | .good l=>obtain⟨r,rfl⟩:=hg l rfl;rw[<- Lt];rfl
 have xA:=hid hHD;have hb:=(aa w (.cells (cA t) 81)).drew;have HT:=(av.new w 81 (cA t)).drew;clear hHD hpl hg fG BH h;unfold bw.ptr;generalize σ.head s.data.toList=R at*;open zgG in exact Zen
def Di (ρ:bw)(W:World)(Gv:eu)(big:Bool)(e:Ending)(w':World):Prop:=e=.returned (.tuple #[])/\iJ ρ W w' Gv big
theorem wZ (ρ:bw)(w:World)(σ:eu)(big:Bool)(h:ρ.at w σ big):
  Calls Tryz.prog 78 #[ρ.ptr] w (Di ρ w (.bad σ.left) big):=by
 obtain⟨c0,c1,c2,c3,f1,f2,f3⟩:=h.facts;have tD:=h.left;have fG:=h.Rm;have NZ:eu.of ρ.ws (.bad σ.left):=⟨(eu.Ji h.of).1,(eu.Ji h.of).2⟩;unfold bw.ptr;by_cases hg:ρ.bad σ < 0
 ·have hB:=av.cJ h.blk 2 (.int .i64 ((ρ.n:Int) - σ.left));go_enter Tryz.func78,Tryz.ntmps78;go_wp2_with fail;go_end0;exact⟨rfl,h.set hB (bE (aD (Below.refl _ _)) 2 _) NZ,bE (aD (Below.refl _ _)) 2 _⟩
 ·have BH:σ=.bad σ.left:=by
   match σ with
   | .bad m=>rfl
   | .good l=>exact absurd (by show(-1:Int)< 0;decide) hg
  have HBD:=hid BH;clear BH;go_enter Tryz.func78,Tryz.ntmps78;go_wp2_with fail;go_end0;rw[<- HBD.out];exact⟨rfl,iJ.refl h⟩
theorem bw.at.step {ρ:bw} {w:World} {l:aK} {t:Wd} {big:Bool}(h:ρ.at w (.good (t::l)) big)(ht:t.k≠0):
  iJ ρ w (w.setCell ⟨ρ.g,1,none⟩ (.int .i64 ((ρ.n:Int) - l.length))) (.good l) big:=by exact Zc1
theorem ud (ρ:bw)(w:World)(σ:eu)(big:Bool)(h:ρ.at w σ big)(s:ByteArray):
  Calls Tryz.prog 77 #[ρ.ptr,.string s] w λ e w'=>e=.returned (.bool (σ.head s.data.toList))/\iJ ρ w w' (fh (may s.data.toList) σ) big:=by
 have hw:=zN ρ w σ big h s;have Dj:ρ.ptr=.pointer (some ⟨ρ.g,0,none⟩):=rfl;cases hh:σ.head s.data.toList
 ·rw[hh] at hw;rw[mj hh];go_enter Tryz.func77,Tryz.ntmps77;go_wp2_with (go_at_call 126;refine hw.mono ?_;rintro e w1 ⟨rfl,b1⟩);go_ret;exact⟨rfl,iJ.aF h b1⟩
 ·rw[hh] at hw;obtain⟨t,r,rfl,ht⟩:=Uj hh;rw[qJ hh];go_enter Tryz.func77,Tryz.ntmps77;have HH:=hid h;have HK:=hid (CZ ht);have hsm:=h.small;clear ht hh h;go_wp2_with (go_at_call 126;refine hw.mono ?_;rintro e w1 ⟨rfl,b1⟩;obtain⟨c0,c1,c2,c3,f1,f2,f3⟩:=(HH.out.later b1).facts;have tD:=(HH.out.later b1).left;have e1:(ρ.n:Int) - (eu.good (t::r)).left+1=(ρ.n:Int) - r.length:=by(simp[eu.left];omega));go_ret;have hd:=bw.at.step (HH.out.later b1) HK.out;exact⟨rfl,(iJ.aF HH.out b1).trans hd⟩
def aR (ks:List (List UInt8)):Array Value:=(ks.map strOf).toArray
variable{ks:List (List UInt8)}{i:Nat}
theorem zO{b:Nat} (h:av w b 9 (aR ks))  {s:List UInt8}(hi:ks[i]?=some s):w.cell? ⟨b,i,none⟩=some (.string ⟨s.toArray⟩):=by rw[h.cell i];simp[aR,hi,strOf]
variable{α:Type}{x:α}
theorem ue{l:List α}  (h:l[i]?=some x):l.drop i=x::l.drop (i+1):=by obtain⟨hlt,he⟩:=List.getElem?_eq_some_iff.1 h;rw[drop_eq_getElem_cons hlt,he]
theorem Dk (ks:List (List UInt8))(n:Nat):fh (gW ks) (.bad n)=.bad n:=rfl
theorem zgi.KbU(h:p:=by
 have hm:=ud ρ wr Gv big HD.out.at_ ⟨s.toArray⟩;cases hh:Gv.head s
 ·have xA:=hid hh;rw[show Gv.head (⟨s.toArray⟩:ByteArray).data.toList=false from hh,mj (s:=(⟨s.toArray⟩:ByteArray).data.toList) hh] at hm;clear hh;go_wp2_with (first
   |(go_at_call 77;refine hm.mono ?_;rintro e w1 ⟨rfl,d1⟩)
   |(go_at_call 78;refine(wZ ρ _ _ big d1.at_).mono ?_;rintro e w2 ⟨rfl,d2⟩))
  go_end0;refine⟨rfl,?_⟩;rw[HS.out,Fh.out,wY,BG xA.out,Dk];exact HD.out.trans (d1.trans d2)
 ·have xA:=hid hh;rw[show Gv.head (⟨s.toArray⟩:ByteArray).data.toList=true from hh,qJ (s:=(⟨s.toArray⟩:ByteArray).data.toList) hh] at hm;clear hh;go_wp2_with (first
   |(go_at_call 77;refine hm.mono ?_;rintro e w1 ⟨rfl,d1⟩))
  go_roundw;case rel=>refine⟨i+1,_,by omega,by go_num,HD.out.trans d1,?_⟩;rw[HS.out,Fh.out,wY,tY xA.out]
  case measure=>exact Zcs):p:=h
theorem Um (ρ:bw)(w:World)(σ:eu)(big:Bool)(h:ρ.at w σ big)(ks:List (List UInt8))(b n:Nat)(hn:ks.length=n)(hb:av w b 9 (aR ks))(hbg:ρ.g≠b)(hsm:n<=10):
  Calls Tryz.prog 131 #[ρ.ptr,.slice (some ⟨b,0,none⟩) n n] w (Di ρ w (fh (gW ks) σ) big):=by
 have HH:=hid h;have HB:=hid hb;clear h hb;go_enter Tryz.func131,Tryz.ntmps131;go_wp2_with fail;go_loopw [4] (λ u wr=>∃(i:Nat) (Gv:eu),i<=n/\u=.int .i64 i/\iJ ρ w wr Gv big/\fh (gW ks) σ=fh (gW (ks.drop i)) Gv) (λ u _=>n - (intOf u).toNat);case atStart=>exact⟨0,σ,Nat.zero_le _,rfl,iJ.refl HH.out,rfl⟩
 case round=>
  obtain⟨i,Gv,hi,rfl,hD,hst⟩:=hrel;have HD:=hid hD;have HS:=hid hst;clear hD hst;by_cases hlt:i < n
  ·open zgi in exact Zd6
  ·obtain rfl:i=n:=by omega
   have hd:ks.drop i=[]:=drop_eq_nil_of_le Taa;rw[hd] at HS;go_wp2_with fail;go_end0;refine⟨rfl,?_⟩;rw[HS.out,tZ];exact HD.out
theorem Un (ρ:bw)(w:World)(σ:eu)(big:Bool)(h:ρ.at w σ big)(n:Nat)(hn:n<=1000000):
  Calls Tryz.prog 133 #[ρ.ptr,.int .i64 n] w λ e w'=>e=.returned (.bool (σ.head bt))/\iJ ρ w w' (fh (may bt) σ) (big || decide (64 < n)):=by
 have Dj:ρ.ptr=.pointer (some ⟨ρ.g,0,none⟩):=rfl;obtain⟨c0,c1,c2,c3,f1,f2,f3⟩:=h.facts;by_cases h64:64 < n
 ·have hB:=av.cJ h.blk 3 (.bool true);have hg:w.grownBy (w.setCell ⟨ρ.g,3,none⟩ (.bool true)) (some ρ.g):=bE (aD (Below.refl _ _)) 3 _;have hat:ρ.at (w.setCell ⟨ρ.g,3,none⟩ (.bool true)) σ true:=h.set hB hg h.of;have hm:=ud ρ _ σ true hat ⟨#[44]⟩;have e1:(big || decide (64 < n))=true:=by simp[h64]
  have hn:(64:Int)< n:=by omega
  rw[e1];clear h hat hB e1;unfold bw.ptr at*;go_enter Tryz.func133,Tryz.ntmps133;go_wp2_with (first
   |(go_at_call 77;refine hm.mono ?_;rintro e w1 ⟨rfl,d1⟩))
  go_ret;exact⟨rfl,⟨d1.at_,ai hg d1.grown⟩⟩
 ·have hm:=ud ρ _ σ big h ⟨#[44]⟩;have e1:(big || decide (64 < n))=big:=by simp[h64]
  have hn:¬(64:Int)< n:=by omega
  rw[e1];clear h e1;unfold bw.ptr at*;go_enter Tryz.func133,Tryz.ntmps133;go_wp2_with (first
   |(go_at_call 77;refine hm.mono ?_;rintro e w1 ⟨rfl,d1⟩))
  go_ret;exact⟨rfl,d1⟩
theorem Jn:(Tryz.prog.info? 36).map (λ i=>(i.zero,i.size,i.bytes))=some (some (.agg #[.int .u8 0,.int .u8 0,.int .i64 0,.string ⟨#[]⟩,.string ⟨#[]⟩,.int .i64 0,.slice none 0 0]),7,88):=by kernel_rfl
variable{W0:World}{row:Option Nat}
theorem iJ.own(h:iJ ρ W0 w σ big)(hg:ρ.g < W0.heap.size)(k:w.grownBy w' row)(hr:∀G,row=some G->W0.heap.size<=G):iJ ρ W0 w' σ big:=by
 have hl:=h.at_.lt;have hs:=h.size;have ng:some ρ.g≠row:=λ e=>by have:=hr _ e.symm;omega
 have nl:some ρ.gl≠row:=λ e=>by have:=hr _ e.symm;omega
 refine⟨⟨h.at_.blk.grown k ng,hl,λ j t ht=>?_,h.at_.of,h.at_.small,h.at_.yo⟩,k.os.trans h.grown.os,k.tape.trans h.grown.tape,k.output.trans h.grown.output,Nat.le_trans hs k.size,λ i hi hne=>?_⟩
 ·have hc:=cell_of_heap (k.block ρ.gl Taa nl);obtain⟨h1,h2,h3,h4⟩:=h.at_.cell j t ht;exact⟨(hc _).trans h1,(hc _).trans h2,(hc _).trans h3,(hc _).trans h4⟩
 ·rw[k.block i Taa (λ e=>by have:=hr _ e.symm;omega)];exact h.grown.block i hi hne
variable{B:Nat}
theorem Rq(k:w.grownBy w' row)(G:Nat)(hr:∀g,row=some g->g=G):∀b,Bx B G w b->(∀o,w'.cell? ⟨b,o,none⟩=w.cell? ⟨b,o,none⟩)/\Bx B G w' b:=λ b hb=>
 ⟨cell_of_heap (k.block b hb.2.1 (λ e=>hb.2.2 (hr _ e.symm))),hb.1,Nat.lt_of_lt_of_le hb.2.1 k.size,hb.2.2⟩
variable{base:Nat}{v:Value}{S:Nat->Prop}
theorem OZ{f:α->List Value} {e:TypeId} {size:Nat}(hf:∀x,(f x).length=size)    {l:List α}(h:cT f e size w base v l) (hS:∀g,base<=g->g < w.heap.size->S g):
  ∃A c,v=.slice A l.length c/\RL f size w S A l:=by
 obtain⟨A,c,hv,_⟩:=h.reads;refine⟨A,c,hv,?_⟩
 match l,h,hv with
 | [],_,_=>exact .inl rfl
 | x::l,h,hv=>obtain⟨g,c',hv',hb,hlt,_⟩:=h.cell hf (k:=0) (x:=x) rfl;rw[hv] at hv';injection hv' with hA _ _;refine .inr ⟨g,0,hA,hS g hb hlt,λ i y j u hy hu=>?_⟩;obtain⟨g2,c2,hv2,_,_,hc⟩:=h.cell hf hy;rw[hv] at hv2;injection hv2 with Fu _ _;rw[hA] at Fu;injection Fu with Fu;injection Fu with Fu _ _;subst Fu;rw[Nat.zero_add];exact hc j u hu
def yr (lv:Nat)(t:Wd):Int:=(eB (opsL lv) [t]).getD 0
variable{lv:Nat}
theorem afS{t:Wd}(h1:t.k≠1)(h4:t.k≠4):yr lv t=0:=by
 unfold yr
 have:∀ks,eB ks [t]=none:=by
  intro ks
  induction ks with
  | nil=>rfl
  | cons a ks ih=>obtain⟨s,o⟩:=a;simp[eB,ar,gV,h1,h4,ih]
 rw[this];rfl
theorem Rn{t:Wd}(h:t.k=1\/t.k=4):yr lv t=((opsL lv).lookup t.s).getD 0:=by
 unfold yr;congr 1;have hk:(t.k==1 || t.k==4)=true:=by rcases h with h | h <;> simp[h]
 generalize opsL lv=ks
 induction ks with
 | nil=>rfl
 | cons a ks ih=>obtain⟨s,o⟩:=a;simp only[eB,ar,gV,hk,Bool.true_and,List.lookup];rw[ih];cases e:(t.s==s)<;> simp
def vy (lv:Nat)(t:Wd)(w:World)(e:Ending)(w':World):Prop:=e=.returned (.int .u8 (yr lv t))/\Below w.heap.size w w'
theorem qj (lv:Nat)(hlv:lv=0\/lv=1\/lv=4\/lv=5)(t:na)(w:World)(hk:t.w.k=1\/t.w.k=4):
  Calls Tryz.prog 182 #[.int .i64 lv,.agg (cA t)] w (vy lv t.w w):=by
 have HR:=hid (Rn (lv:=lv) hk);have hb:=aa w (.cells (cA t) 81);obtain⟨u0,u1,u2,u3,_⟩:=aO (av.new w 81 (cA t));unfold vy;unfold cA at*;rcases hk with hk | hk
 ·have n1:((t.w.k:Int) != 1)=false:=by simp;omega
  exact ZcB
 ·have n1:((t.w.k:Int) != 1)=true:=by simp;omega
  have n2:((t.w.k:Int) != 4)=false:=by simp;omega
  exact ZcB
def Uo:List (List UInt8):=[[61],[60,62],[60],[60,61],[62],[62,61]]
theorem YF{x:List UInt8} (hi:i < 6):∃y,Uo[i]?=some y/\((opsL 3).drop i).lookup x=if x==y then some ((10:Int)+i)else((opsL 3).drop (i+1)).lookup x:=by
 rcases(by omega:i=0\/i=1\/i=2\/i=3\/i=4\/i=5)with rfl | rfl | rfl | rfl | rfl | rfl <;> refine⟨_,rfl,?_⟩<;> simp[opsL,List.lookup,IP,aff,afg,afh,afi,afj] <;> split <;> simp_all
theorem OV (t:na)(w:World)(hk:t.w.k=1\/t.w.k=4):
  Calls Tryz.prog 182 #[.int .i64 (3:Nat),.agg (cA t)] w (vy 3 t.w w):=by
 have HR:=hid (Rn (lv:=3) hk);obtain⟨u0,u1,u2,u3,_⟩:=aO (av.new w 81 (cA t))
 have hn:(((t.w.k:Int) != 1)=false)\/((((t.w.k:Int) != 1)=true)/\(((t.w.k:Int) != 4)=false)):=by
  rcases hk with hk | hk
  ·exact .inl Tae
  ·exact .inr ⟨by simp;omega,by simp;omega⟩
 clear hk;have b1:=af.then (aa w (.cells (cA t) 81)) (aa _ (.cells (aR Uo) 9));have B1:=(av.new w 81 (cA t)).alloc (.cells (aR Uo) 9);have B2:=av.new (w.alloc (.cells (cA t) 81)) 9 (aR Uo);rw[World.size_alloc] at B2;have pQ:=hid B1;have vT:=hid B2;have hb:=hid b1;clear B1 B2 b1;unfold vy;have ale:aR Uo= #[.string ⟨#[61]⟩,.string ⟨#[60,62]⟩,.string ⟨#[60]⟩,.string ⟨#[60,61]⟩,.string ⟨#[62]⟩,.string ⟨#[62,61]⟩]:=rfl;rw[ale] at pQ vT hb;unfold cA at*;generalize yr 3 t.w=R at*
 rcases hn with n1 |⟨n1,n2⟩;all_goals
  go_enter Tryz.func182,Tryz.ntmps182;go_wp2_with fail;clear u0 u1 u2 u3;generalize (w.alloc _).alloc _=W at*;go_loopw [6] (λ u wr=>∃i:Nat,i<=6/\u=.int .i64 i/\Below W.heap.size W wr/\(opsL 3).lookup t.w.s=((opsL 3).drop i).lookup t.w.s) (λ u _=>6 - (intOf u).toNat);case atStart=>exact⟨0,Nat.zero_le _,rfl,Below.refl _ _,rfl⟩
  case round=>
   obtain⟨i,hi,rfl,iV,hlk⟩:=hrel;have HLK:=hid hlk;have nI:=hid iV;clear hlk iV;by_cases hlt:i < 6
   ·obtain⟨y,hy,hstep⟩:=YF (x:=t.w.s) hlt;have HST:=hid hstep;have c2:=(vT.out.later nI.out).cell i;rw[<- ale,show(aR Uo)[i]?=some (.string ⟨y.toArray⟩) by simp[aR,hy,strOf]] at c2;have c1:=(pQ.out.later nI.out).cell 1;have Ob:i < 6:=hlt;clear hy hstep;cases he:(t.w.s==y)
    ·have HE:=hid he;have t1:(y==t.w.s)=false:=by rw[beq_eq_false_iff_ne] at he ⊢;exact λ e=>he e.symm
     clear he;go_wp2_with fail;go_region;go_wp2_with fail;go_roundw;case rel=>refine⟨i+1,by omega,by go_num,nI.out.drew,?_⟩;rw[HLK.out,HST.out,HE.out];rfl
     case measure=>simp[intOf];omega
    ·have HE:=hid he;have t1:(y==t.w.s)=true:=by rw[beq_iff_eq] at he ⊢;exact he.symm
     clear he;go_wp2_with fail;go_region;go_wp2_with fail;go_ret;refine⟨?_,af.then hb.out nI.out.drew⟩;rw[HR.out,HLK.out,HST.out,HE.out];refine kJ ?_;rcases(by omega:i=0\/i=1\/i=2\/i=3\/i=4\/i=5)with rfl | rfl | rfl | rfl | rfl | rfl <;> rfl
   ·obtain rfl:i=6:=by omega
    go_wp2_with fail;go_ret;rw[HR.out,HLK.out];exact⟨rfl,af.then hb.out nI.out⟩
theorem OW (lv:Nat)(hlv:lv=0\/lv=1\/lv=3\/lv=4\/lv=5)(t:na)(w:World):
  Calls Tryz.prog 182 #[.int .i64 lv,.agg (cA t)] w (vy lv t.w w):=by
 by_cases hk:t.w.k=1\/t.w.k=4
 ·rcases hlv with rfl | rfl | rfl | rfl | rfl
  ·exact qj 0 Tad t w hk
  ·exact qj 1 Tad t w hk
  ·exact OV t w hk
  ·exact qj 4 Tad t w hk
  ·exact qj 5 Tad t w hk
 ·have hb:=aa w (.cells (cA t) 81);obtain⟨u0,u1,u2,u3,_⟩:=aO (av.new w 81 (cA t));unfold vy;unfold cA at*;have HR:=hid (afS (lv:=lv) (λ e=>hk (.inl e)) (λ e=>hk (.inr e)));generalize yr lv t.w=R at*;have n1:((t.w.k:Int) != 1)=true:=by simp;omega
  have n2:((t.w.k:Int) != 4)=true:=by simp;omega
  go_enter Tryz.func182,Tryz.ntmps182;go_wp2_with fail;go_ret;rw[HR.out];exact⟨rfl,hb⟩
theorem Dl (lv:Nat)(z:Int)(hz:z=lv)(hlv:lv=0\/lv=1\/lv=3\/lv=4\/lv=5)(t:na)(w:World):
  Calls Tryz.prog 182 #[.int .i64 z,.agg #[.int .u8 t.w.k,.string ⟨t.w.s.toArray⟩,.int .i64 t.w.n,.int .i64 t.p]] w λ e w'=>e=.returned (.int .u8 (yr lv t.w))/\Below w.heap.size w w':=by subst hz;exact OW lv hlv t w
def Gw (y:Ex):Obj:=.cells (aU y).toArray 36
def Fs (y z:Ex):Obj:=.cells (aU y++aU z).toArray 36
def iY:List Nat->Nat
 | []=>0
 | a::l=>max a (iY l)
theorem Be:∀(l:List Nat) (a:Nat),iY (l++ [a])=max (iY l) a
 | [],a=>by simp[iY]
 | b::l,a=>by simp only[cons_append,iY,Be l a];omega
theorem zQ{l:List Nat} {d:Nat}(h:l[i]?=some d):iY (l.take (i+1))=max (iY (l.take i)) d:=by rw[take_add_one,h];exact Be _ _
theorem yw:∀ {l:List Nat} {d:Nat},d∈l->d<=iY l
 | a::l,d,h=>by
   rcases List.mem_cons.1 h with rfl | h
   ·simp only[iY];omega
   ·have:=yw h;simp only[iY];omega
theorem oy:∀(l:List Nat) (i:Nat),iY (l.take i)<=iY l
 | [],i=>by simp[iY]
 | a::l,0=>by simp[iY]
 | a::l,i+1=>by have:=oy l i;simp only[take_succ_cons,iY];omega
theorem ql:∀ts:List Tr,Tr.mb ts=iY (ts.map Tr.depth)
 | []=>by simp[Tr.mb,iY]
 | t::ts=>by simp[Tr.mb,iY,ql ts]
def sV (f:FuncId)(w:World)(y:Ex)(d:Nat):Prop:=∀W,Below w.heap.size w W->Calls Tryz.prog f #[eb y] W λ e w'=>e=.returned (.int .i64 d)/\Below W.heap.size W w'
theorem zdk.KaN(h:p:=by refine(hDx wr hwr).mono ?_;rintro e w' ⟨rfl,b'⟩;exact Zcm):p:=h
theorem zcW.KaE(h:p:=by
 go_enter Tryz.func21,Tryz.ntmps21;go_wp2_with fail;generalize W.alloc _=W1 at*;have nI:=hid hb;have HW:=hid hW;clear hb;go_loopw [3,4] (λ m iv wr=>∃i:Nat,i<=ys.length/\iv=.int .i64 i/\m=.int .i64 (iY (ds.take i))/\Below W1.heap.size W1 wr) (λ _ iv _=>ys.length - (intOf iv).toNat);case atStart=>exact⟨0,Nat.zero_le _,rfl,rfl,Below.refl _ _⟩
 case round=>
  obtain⟨i,hi,rfl,rfl,iV⟩:=hrel;have x6:=(HX.later iV).cell 6;simp only[Uaa] at x6;have hml:=oy ds i;have V6:=HM.out;by_cases hlt:i < ys.length
  ·open zdk in exact Zbe
  ·exact Zc3):p:=h
theorem LA (w:World)(y:Ex)(ys:List Ex)(ds:List Nat)(S:Nat->Prop)(hS:∀b,S b->b < w.heap.size)(hn:y.n=ys.length)(hA:RL aU 7 w S y.A ys)(hd:ds.length=ys.length)(hD:∀(i:Nat) x d,ys[i]?=some x->ds[i]?=some d->sV 21 w x d)(hm:iY ds<=1000000)(hl:ys.length<=1000000000):sV 21 w y (iY ds+1):=by
 open zcW in exact Za1
theorem zcX.KaE(h:p:=by go_enter Tryz.func155,Tryz.ntmps155;exact Zaj):p:=h
theorem LB (w:World)(y:Ex)(ys:List Ex)(ds:List Nat)(S:Nat->Prop)(hS:∀b,S b->b < w.heap.size)(hn:y.n=ys.length)(hA:RL aU 7 w S y.A ys)(hd:ds.length=ys.length)(hD:∀(i:Nat) x d,ys[i]?=some x->ds[i]?=some d->sV 155 w x d)(hm:iY ds<=1000000)(hl:ys.length<=1000000000):sV 155 w y (iY ds+1):=by
 open zcX in exact Za1
mutual
def Tr.thin:Tr->Prop
 | .mk op v name width args=>args.length<=1000000000/\Tr.iP args
def Tr.iP:List Tr->Prop
 | []=>True
 | t::ts=>t.thin/\Tr.iP ts
end
mutual
theorem Tr.alj {w:World} {S:Nat->Prop}(hS:∀b,S b->b < w.heap.size):∀(t:Tr) (y:Ex),t.at_ w S y->t.thin->t.depth<=1000000->sV 21 w y t.depth
 | .mk op v name width args,y,h,ht,hd=>by unfold Tr.at_ at h;obtain⟨_,_,_,_,hn,ys,hr,ha⟩:=h;unfold Tr.thin at ht;simp only[Tr.depth] at hd ⊢;have hl:=Tr.gq.length ha;rw[ql] at hd ⊢;exact LA w y ys (args.map Tr.depth) S hS (by rw[hn,hl]) hr (by simp[hl]) (Tr.adA hS args ys ha ht.2 Taa) Taa Ta4
theorem Tr.adA {w:World} {S:Nat->Prop}(hS:∀b,S b->b < w.heap.size):∀(ts:List Tr) (ys:List Ex),Tr.gq w S ts ys->Tr.iP ts->iY (ts.map Tr.depth)<=1000000->∀(i:Nat) x d,ys[i]?=some x->(ts.map Tr.depth)[i]?=some d->sV 21 w x d
 | [],ys,h,_,_,i,x,d,hx,hd=>by simp at hd
 | t::ts,ys,h,ht,hm,i,x,d,hx,hd=>by
   unfold Tr.gq at h;obtain⟨y,ys',rfl,h1,h2⟩:=h;unfold Tr.iP at ht;simp only[map_cons,iY] at hm
   match i,hx,hd with
   | 0,hx,hd=>simp at hx hd;subst hx hd;exact Tr.alj hS t y h1 ht.1 Taa
   | i+1,hx,hd=>exact Tr.adA hS ts ys' h2 ht.2 Taa i x d TaY (by simpa using hd)
end
mutual
theorem Tr.alk {w:World} {S:Nat->Prop}(hS:∀b,S b->b < w.heap.size):∀(t:Tr) (y:Ex),t.at_ w S y->t.thin->t.depth<=1000000->sV 155 w y t.depth
 | .mk op v name width args,y,h,ht,hd=>by unfold Tr.at_ at h;obtain⟨_,_,_,_,hn,ys,hr,ha⟩:=h;unfold Tr.thin at ht;simp only[Tr.depth] at hd ⊢;have hl:=Tr.gq.length ha;rw[ql] at hd ⊢;exact LB w y ys (args.map Tr.depth) S hS (by rw[hn,hl]) hr (by simp[hl]) (Tr.adB hS args ys ha ht.2 Taa) Taa Ta4
theorem Tr.adB {w:World} {S:Nat->Prop}(hS:∀b,S b->b < w.heap.size):∀(ts:List Tr) (ys:List Ex),Tr.gq w S ts ys->Tr.iP ts->iY (ts.map Tr.depth)<=1000000->∀(i:Nat) x d,ys[i]?=some x->(ts.map Tr.depth)[i]?=some d->sV 155 w x d
 | [],ys,h,_,_,i,x,d,hx,hd=>by simp at hd
 | t::ts,ys,h,ht,hm,i,x,d,hx,hd=>by
   unfold Tr.gq at h;obtain⟨y,ys',rfl,h1,h2⟩:=h;unfold Tr.iP at ht;simp only[map_cons,iY] at hm
   match i,hx,hd with
   | 0,hx,hd=>simp at hx hd;subst hx hd;exact Tr.alk hS t y h1 ht.1 Taa
   | i+1,hx,hd=>exact Tr.adB hS ts ys' h2 ht.2 Taa i x d TaY (by simpa using hd)
end
def xB:Obj:=.cells #[.int .u8 0,.int .u8 0,.int .i64 0,.string ⟨#[]⟩,.string ⟨#[]⟩,.int .i64 0,.slice none 0 0] 36
variable{q:Nat}{y:Ex}
theorem eE(h:av w q 36 (aU y).toArray):
  w.cell? ⟨q,0,none⟩=some (.int .u8 y.op)/\w.cell? ⟨q,1,none⟩=some (.int .u8 y.v.k)/\w.cell? ⟨q,2,none⟩=some (.int .i64 y.v.n)/\w.cell? ⟨q,3,none⟩=some (.string y.v.s)/\w.cell? ⟨q,4,none⟩=some (.string y.name)/\w.cell? ⟨q,5,none⟩=some (.int .i64 y.width)/\w.cell? ⟨q,6,none⟩=some (.slice y.A y.n y.c):=
 ⟨h.cell 0,h.cell 1,h.cell 2,h.cell 3,h.cell 4,h.cell 5,h.cell 6⟩
variable{T:TypeId}{a b d e f:Value}
theorem eV{c g:Value}(h:av w q T #[a,b,c,d,e,f,g]):
  w.cell? ⟨q,0,none⟩=some a/\w.cell? ⟨q,1,none⟩=some b/\w.cell? ⟨q,2,none⟩=some c/\w.cell? ⟨q,3,none⟩=some d/\w.cell? ⟨q,4,none⟩=some e/\w.cell? ⟨q,5,none⟩=some f/\w.cell? ⟨q,6,none⟩=some g:=
 ⟨h.cell 0,h.cell 1,h.cell 2,h.cell 3,h.cell 4,h.cell 5,h.cell 6⟩
variable{cs:Array Value}
theorem iy(h:av w q 36 cs):
  w.frozen? ⟨q,0,none⟩=false/\w.frozen? ⟨q,1,none⟩=false/\w.frozen? ⟨q,2,none⟩=false/\w.frozen? ⟨q,3,none⟩=false/\w.frozen? ⟨q,4,none⟩=false/\w.frozen? ⟨q,5,none⟩=false/\w.frozen? ⟨q,6,none⟩=false:=
 ⟨h.frozen 0,h.frozen 1,h.frozen 2,h.frozen 3,h.frozen 4,h.frozen 5,h.frozen 6⟩
def gX (w:World)(q:Nat)(y:Ex):World:=((((((w.setCell ⟨q,0,none⟩ (.int .u8 y.op)).setCell ⟨q,1,none⟩ (.int .u8 y.v.k)).setCell ⟨q,2,none⟩ (.int .i64 y.v.n)).setCell ⟨q,3,none⟩ (.string y.v.s)).setCell ⟨q,4,none⟩ (.string y.name)).setCell ⟨q,5,none⟩ (.int .i64 y.width)).setCell ⟨q,6,none⟩ (.slice y.A y.n y.c)
theorem iz{c g:Value}(h:av w q T #[a,b,c,d,e,f,g])(y:Ex):av (gX w q y) q T (aU y).toArray:=by have:=((((((h.cJ 0 (.int .u8 y.op)).cJ 1 (.int .u8 y.v.k)).cJ 2 (.int .i64 y.v.n)).cJ 3 (.string y.v.s)).cJ 4 (.string y.name)).cJ 5 (.int .i64 y.width)).cJ 6 (.slice y.A y.n y.c);exact Zdj
theorem Up{p:Nat}  (h:av w p T cs)(hp:p≠q)(y:Ex):av (gX w q y) p T cs:=
 ((((((h.far (p:=⟨q,0,none⟩) hp _).far (p:=⟨q,1,none⟩) hp _).far (p:=⟨q,2,none⟩) hp _).far (p:=⟨q,3,none⟩) hp _).far (p:=⟨q,4,none⟩) hp _).far (p:=⟨q,5,none⟩) hp _).far (p:=⟨q,6,none⟩) hp _
variable{W:World}
theorem iJ.gX(h:iJ ρ W w σ big)(hW:ρ.g < W.heap.size)(hq:W.heap.size<=q)(y:Ex):iJ ρ W (gX w q y) σ big:=
 ((((((h.far hW hq 0 _).far hW hq 1 _).far hW hq 2 _).far hW hq 3 _).far hW hq 4 _).far hW hq 5 _).far hW hq 6 _
theorem ads{S:World->Nat->Prop}(hs:∀(w:World) (i:Nat) (u:Value),∀b,S w b->(∀o,(w.setCell ⟨q,i,none⟩ u).cell? ⟨b,o,none⟩=w.cell? ⟨b,o,none⟩)/\S (w.setCell ⟨q,i,none⟩ u) b)(y:Ex):∀b,S w b->(∀o,(Go.Proofs.YtehhdlgjfdnafaaGreatDoor.gX w q y).cell? ⟨b,o,none⟩=w.cell? ⟨b,o,none⟩)/\S (Go.Proofs.YtehhdlgjfdnafaaGreatDoor.gX w q y) b:=by intro b hb;obtain⟨c0,s0⟩:=hs w 0 (.int .u8 y.op) b hb;obtain⟨c1,s1⟩:=hs _ 1 (.int .u8 y.v.k) b s0;obtain⟨c2,s2⟩:=hs _ 2 (.int .i64 y.v.n) b s1;obtain⟨c3,s3⟩:=hs _ 3 (.string y.v.s) b s2;obtain⟨c4,s4⟩:=hs _ 4 (.string y.name) b s3;obtain⟨c5,s5⟩:=hs _ 5 (.int .i64 y.width) b s4;obtain⟨c6,s6⟩:=hs _ 6 (.slice y.A y.n y.c) b s5;exact⟨λ o=>(c6 o).trans ((c5 o).trans ((c4 o).trans ((c3 o).trans ((c2 o).trans ((c1 o).trans (c0 o)))))),s6⟩
variable{t:Tr}
theorem Tr.at_.gX(h:t.at_ w (eI B w) y)(hq:q < B)(z:Ex):t.at_ (gX w q z) (eI B (Go.Proofs.YtehhdlgjfdnafaaGreatDoor.gX w q z)) y:=Tr.at_.keep (ads (S:=λ w=>eI B w) (λ w i u=>pW hq i u) z) t y h
theorem iW (ρ:bw)(w:World)(σ:eu)(big:Bool)(h:ρ.at w σ big)(s:ByteArray)(hh:σ.head s.data.toList=false):
  Calls Tryz.prog 77 #[ρ.ptr,.string s] w λ e w'=>e=.returned (.bool false)/\iJ ρ w w' σ big:=by have:=ud ρ w σ big h s;rw[hh,mj hh] at this;exact this
theorem yt (ρ:bw)(w:World)(σ:eu)(big:Bool)(h:ρ.at w σ big)(s:ByteArray)(hh:σ.head s.data.toList=true):
  Calls Tryz.prog 77 #[ρ.ptr,.string s] w λ e w'=>e=.returned (.bool true)/\iJ ρ w w' (.good σ.words.tail) big:=by have:=ud ρ w σ big h s;rw[hh,qJ hh] at this;exact this
def Rx (ρ:bw)(W:World)(t:Tr)(r:aK)(e:Ending)(w':World):Prop:=∃y,e=.returned (eb y)/\t.at_ w' (eI W.heap.size w') y/\iJ ρ W w' (.good r) false
def fO (z:Int)(l:aK)(t:Tr)(r:aK):Prop:=∀(ρ:bw) (w:World),ρ.at w (.good l) false->Calls Tryz.prog 163 #[ρ.ptr,.int .i64 z] w (Rx ρ w t r)
def Pv (l:aK)(t:Tr)(r:aK):Prop:=∀(ρ:bw) (w:World),ρ.at w (.good l) false->Calls Tryz.prog 181 #[ρ.ptr] w (Rx ρ w t r)
variable{r:aK}
theorem Rx.put(hg:ρ.g < w.heap.size)(hq:w.heap.size<=q)(hd:iJ ρ w W (.good r) false)(ht:t.at_ W (eI (q+1) W) y):Rx ρ w t r (.returned (eb y)) (gX W q y):=
 ⟨y,rfl,(ht.gX (Nat.lt_succ_self q) y).more Taa,hd.gX hg hq y⟩
variable{l:aK}
theorem adH(hn:ar eC l=false)(H:fO 3 l t r):fO 2 l t r:=by intro ρ w h;have br:=h.od;have hb:=aa w xB;have h0:=h.later hb;have hm:=iW ρ _ _ false h0 ⟨#[110,111,116]⟩ hn;exact ZaI
theorem adI(hn:ar dP l=false)(H:fO 7 l t r):fO 6 l t r:=by intro ρ w h;have br:=h.od;have hb:=aa w xB;have h0:=h.later hb;have hm:=iW ρ _ _ false h0 ⟨#[45]⟩ hn;exact ZaI
theorem zcm.Kav(h:p:=by
 unfold xB at*;go_enter Tryz.func163,Tryz.ntmps163;go_wp2_with fail;refine(H ρ _ h0).mono ?_;rintro e w2 ⟨y,rfl,ht,d2⟩;unfold eb aU;have ku:=d2.blk HQ.out Taa;have nh:=hid ku;obtain⟨z0,z1,z2,z3,z4,z5,z6⟩:=iy ku;obtain⟨y0,y1,y2,y3,y4,y5,y6⟩:=eV ku;have D2:=hid ((iJ.aF h hb).trans d2);have hs2:=d2.size;clear ku d2;go_wp2_with fail;have HP:=iz nh.out y;have HR:=eE HP;unfold gX at HR;obtain⟨r0,r1,r2,r3,r4,r5,r6⟩:=HR;refine bodyPost_ret (v:=eb y) Zca rfl ?_
 ·exact Rx.put br (Nat.le_refl _) D2.out (ht.more Taa)):p:=h
theorem adJ(H:Pv l t r):fO 7 l t r:=by intro ρ w h;have br:=h.od;have hb:=aa w xB;have h0:=h.later hb;open zcm in exact ZaO
variable{u:Wd}
theorem zaY.Kaf(h:p:=by
 have LK:=HQW.out.later hW;have HXW:=HX.out.later hW;obtain⟨z0,z1,z2,z3,z4,z5,z6⟩:=iy LK;obtain⟨y0,y1,y2,y3,y4,y5,y6⟩:=eV LK;obtain⟨x0,x1,x2,x3,x4,x5,x6⟩:=eV HXW;have eH:=hid LK;have hqb:=LK.lt;clear LK HXW;go_wp2_with fail;have HP:=iz eH.out y;have HR:=eE HP;unfold gX at HR;obtain⟨r0,r1,r2,r3,r4,r5,r6⟩:=HR;refine bodyPost_ret (v:=eb y) Zca rfl ?_
 ·exact Rx.put br (Nat.le_refl _) (HD.out.later hW) ((HT.out.later hW).more (Nat.le_refl _))):p:=h
theorem zgo.KbW(h:p:=by
 have HBZ:=hid (λ tk=>Dl lv z hz Taa tk);have Zn:=hid hop;have HH:=hid H;clear hlv hz hop H;unfold xB at*;unfold bw.ptr;go_enter Tryz.func163,Tryz.ntmps163;go_wp2_with (first
  |(go_at_call 163;refine(HH.out ρ _ h0).mono ?_;rintro e w2 ⟨y,rfl,ht,d2⟩;unfold eb aU))
 have hD:=((iJ.aF h hb).trans d2).later (aa w2 (.cells #[.int .u8 y.op,.int .u8 y.v.k,.int .i64 y.v.n,.string y.v.s,.string y.name,.int .i64 y.width,.slice y.A y.n y.c] 36));have hX:=av.new w2 36 #[.int .u8 y.op,.int .u8 y.v.k,.int .i64 y.v.n,.string y.v.s,.string y.name,.int .i64 y.width,.slice y.A y.n y.c];have hQ:=(d2.blk HQ.out Taa).alloc (.cells #[.int .u8 y.op,.int .u8 y.v.k,.int .i64 y.v.n,.string y.v.s,.string y.name,.int .i64 y.width,.slice y.A y.n y.c] 36);have hT:=(ht.later (aa w2 (.cells #[.int .u8 y.op,.int .u8 y.v.k,.int .i64 y.v.n,.string y.v.s,.string y.name,.int .i64 y.width,.slice y.A y.n y.c] 36))).more (B':=w.heap.size+1) Taa;have Kz:w.heap.size+1<=w2.heap.size:=by have:=d2.size;omega
 generalize w2.alloc _=W at*;generalize w2.heap.size=qx at*;have HD:=hid hD;have HX:=hid hX;have HQW:=hid hQ;have HT:=hid hT;clear hD hX hQ hT ht d2 h0 hb HQ HH;go_loopg [] 0 (λ k wr=>wr=W);case atStart=>rfl
 case round=>
  obtain rfl:_=W:=hrel;obtain⟨tk,pl,bd,hpl,hlt,agl,BH,fG,hg,Bd,Cf,hp⟩:=HD.out.at_.mN;obtain⟨r',tE⟩:=hg _ rfl;obtain rfl:u=tk.w:=by injection tE
  have xc:bd < 0:=by simpa [eu.pn] using fG
  have HP:=hid hp;have c2:=hp.c2;have Zo:=HBZ.out tk;rw[Zn.out] at Zo;clear hpl hg fG BH hp tE;open zaY in exact Zai):p:=h
theorem zcn.Kav(h:p:=by open zgo in exact Zec):p:=h
theorem mQ(lv:Nat)(hlv:lv=0\/lv=1\/lv=4\/lv=5)   (hop:yr lv u=0)(H:fO ((lv:Int)+1) l t (u::r)):fO lv l t (u::r):=by intro ρ w h;obtain⟨z,hz⟩:∃z:Int,z=lv:=⟨_,rfl⟩;rw[<- hz] at H ⊢;have br:=h.od;have hb:=aa w xB;have h0:=h.later hb;open zcn in exact ZaO
variable{k:Nat}
theorem Uk{n:Nat}(h:pl=n - k)(hk:k<=n):(n:Int) - k=pl:=by omega
theorem zgH.Kb3(h:p:=by
 have HWR:=hid hwr;have HPL:=hid hpl;have HG:=hid hg;have adr:=hid fG;clear hwr hpl hg fG BH;rw[Dj];go_enter Tryz.func130,Tryz.ntmps130;go_wp2_with fail;go_region;clear c0 c1 c2 d0 d1 d2 d3 y0 y1 y2 z0 z1 z2 z3 x0 v0 v1 v2 v3;obtain⟨u0,u1,u2,u3,_⟩:=aO HT;clear HT;unfold cA at u0 u1 u2 u3 hb x1 x2 Ul HF HWR HB HD;generalize (w.alloc _).drew=W at*;have hwr:=HWR.out;clear HWR;rw[Dj] at hwr;have hres:=Fq ⟨t.w.s.toArray⟩ W;have ki:(⟨t.w.s.toArray⟩:ByteArray).data.toList=t.w.s:=by simp
 rw[ki] at hres;by_cases xc:bd < 0
 ·obtain⟨l,rfl⟩:∃l,σ=.good l:=by
   match σ,adr.out with
   | .good l,_=>exact⟨l,rfl⟩
   | .bad m,fG=>simp[eu.pn] at fG;omega
  obtain⟨r,rfl⟩:=HG.out l rfl;have e1:(pl:Int)+1=(ρ.n:Int) - r.length:=by rw[HPL.out];simp only[eu.left,length_cons] at*;omega
  by_cases hk:t.w.k=1
  ·cases hr:kP t.w.s
   ·have HC:=hid (show t.w.k=1/\kP t.w.s=false from⟨hk,hr⟩);have hd0:=λ(W2:World) (hb2:Below W.heap.size W W2)=>bw.at.step (HF.out.later hb2) (show t.w.k≠0 by omega)
    have XO:=hid hd0;have hs0:=λ(W2:World) (hb2:Below W.heap.size W W2)=>(HB.out.later hb2).cell 1
    have HS0:=hid hs0;have HX:=hid (λ(W2:World) (hb2:Below W.heap.size W W2)=>(HB.out.later hb2).far (p:=⟨ρ.g,1,none⟩) Tae (.int .i64 ((ρ.n:Int) - r.length)));rw[hr] at hres;have eH:=hid hres;clear hd0 hs0 hr hres;go_wp2_with (go_at_call 91;go_loud (refine eH.out.mono ?_;rintro e w1 ⟨rfl,b1⟩;obtain⟨q0,q1,q2,q3,p1,p2,p3⟩:=(HF.out.later b1).facts;have s1:=(HX.out w1 b1).cell 1;have e2:(ρ.n:Int) - (eu.good (t.w::r)).left=pl:=(Uk HPL.out tD.2);rw[e2] at q1));go_ret;refine⟨⟨t.w.s.toArray⟩,rfl,?_,OU _ _⟩;rw[vw,if_pos HC.out];exact(HD.out.later b1).trans (XO.out w1 b1)
   ·have e3:fh cC (.good (t.w::r))=.bad (r.length+1):=by rw[vw,if_neg (by rw[hr];simp)]
    have vx:=hid e3;rw[hr] at hres;have eH:=hid hres;clear hr e3 hres;go_wp2_with (first
     |(go_at_call 91;refine eH.out.mono ?_;rintro e w1 ⟨rfl,b1⟩)
     |(go_at_call 78;refine(wZ ρ _ _ big (HF.out.later b1)).mono ?_;rintro e w2 ⟨rfl,d1⟩))
    go_ret;refine⟨ByteArray.empty,rfl,?_,yq vx.out _⟩;rw[vx.out];exact(HD.out.later b1).trans d1
  ·have e3:fh cC (.good (t.w::r))=.bad (r.length+1):=by rw[vw,if_neg (by simp[hk])]
   have vx:=hid e3;have g1:((t.w.k:Int) != 1)=true:=by simp;omega
   clear e3;go_wp2_with (go_at_call 78;refine hwr.mono ?_;rintro e w1 ⟨rfl,d1⟩);go_ret;refine⟨ByteArray.empty,rfl,?_,yq vx.out _⟩;rw[vx.out];exact HD.out.trans d1
 ·obtain⟨m,rfl⟩:∃m,σ=.bad m:=by
   match σ,adr.out with
   | .good l,fG=>simp[eu.pn] at fG;omega
   | .bad m,_=>exact⟨m,rfl⟩
  go_wp2_with (go_at_call 78;refine hwr.mono ?_;rintro e w1 ⟨rfl,d1⟩);go_ret;exact⟨ByteArray.empty,rfl,HD.out.trans d1,Ue _ _ _⟩):p:=h
theorem aau (ρ:bw)(w:World)(σ:eu)(big:Bool)(h:ρ.at w σ big):
  Calls Tryz.prog 130 #[ρ.ptr] w λ e w'=>∃x:ByteArray,e=.returned (.string x)/\iJ ρ w w' (fh cC σ) big/\rh cC σ x:=by obtain⟨t,pl,bd,hpl,hlt,hsm,BH,fG,hg,Bd,Cf,hp⟩:=h.mN;have hp2:=hp.later (aa w zM);have hp3:=hp.later ((aa w (.cells (cA t) 81)).drew);have hb:=(aa w (.cells (cA t) 81)).drew;have HT:=(av.new w 81 (cA t)).drew;have HB:=hid HT;have HF:=hid (h.later hb);have HD:=hid (iJ.aF h hb);have Ul:=(h.later hb).facts.2.2.2.2.1;have Dj:ρ.ptr=.pointer (some ⟨ρ.g,0,none⟩):=rfl;have hwr:=wZ ρ _ σ big (h.later hb);have tD:=h.left;have br:=h.od;clear h;open zgH in exact Zen
end Go.Proofs.YtehhdlgjfdnafaaGreatDoor
