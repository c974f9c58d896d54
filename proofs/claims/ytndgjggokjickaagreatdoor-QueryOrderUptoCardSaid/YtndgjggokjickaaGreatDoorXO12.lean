/- Parts of the proof. -/
import Derived.Deep.Strs
import Derived.Lay
import Derived.LaidMore
import Derived.Stop.LaidErr
import Derived.HandedShaped
import Derived.Deep.DeepHandedRow
import Derived.Test.YtndgjggokjickaaGreatDoorXO11
namespace Go.Proofs.YtndgjggokjickaaGreatDoor
variable{p:Prop}
set_option maxHeartbeats 90000000
set_option maxRecDepth 100000
open Go.ChangeShapes Go.WideShapes Go.ChangeAt Go.RowKit List
set_option linter.unusedVariables false
set_option linter.unusedSimpArgs false
theorem zav.KW(h:p:=by rw[<- pT] at nD x2 x7 Rz RD ⊢;clear pT;have t1:decide ((200:Int)<(L.i.n:Int))=true:=decide_eq_true Tq;clear h0;exact ZbE):p:=h
theorem zbs.Kag(h:p:=by have x2:=k1.cell 2;have x7:=k1.cell 7;have Rz:=k1.cell 19;have RD:=k1.cell 20;simp only[Uaa] at x2 x7 Rz RD;open zav in exact Zah):p:=h
theorem Xl (q:Qy)(L:QL)(w:World)(hf:q.bS.size<=4611686018427387904)(hn:L.i.n<=4611686018427387904/\L.o.n<=4611686018427387904/\L.l.n<=4611686018427387904)(h0:200 < L.i.n):ar 21 #[.agg (NN q L)] w (qQ w):=by
 open zbs in exact Zaz
theorem zaw.KW(h:p:=by rw[<- pT] at nD x2 x7 Yb Rz RD ⊢;clear pT;have t1:decide ((200:Int)<(L.i.n:Int))=false:=decide_eq_false Tq;have t2:decide ((200:Int)<(L.o.n:Int))=true:=decide_eq_true Tq;clear h0 h1;exact ZbE):p:=h
theorem zbt.Kag(h:p:=by have x2:=k1.cell 2;have x7:=k1.cell 7;have Yb:=k1.cell 13;have Rz:=k1.cell 19;have RD:=k1.cell 20;simp only[Uaa] at x2 x7 Yb Rz RD;open zaw in exact Zah):p:=h
theorem Xm (q:Qy)(L:QL)(w:World)(hf:q.bS.size<=4611686018427387904)(hn:L.i.n<=4611686018427387904/\L.o.n<=4611686018427387904/\L.l.n<=4611686018427387904)(h0:¬200 < L.i.n)(h1:200 < L.o.n):ar 21 #[.agg (NN q L)] w (qQ w):=by
 open zbt in exact Zaz
theorem zgK.KbL(h:p:=by have t3:decide ((200:Int)<(L.l.n:Int))=true:=decide_eq_true Tq;clear h0 h1 h2;exact ZbE):p:=h
theorem zax.KW(h:p:=by rw[<- pT] at nD x2 x7 Yb c14 Rz RD ⊢;clear pT;open zgK in exact Zez):p:=h
theorem zbu.Kag(h:p:=by have x2:=k1.cell 2;have x7:=k1.cell 7;have Yb:=k1.cell 13;have c14:=k1.cell 14;have Rz:=k1.cell 19;have RD:=k1.cell 20;simp only[Uaa] at x2 x7 Yb c14 Rz RD;open zax in exact Zah):p:=h
theorem Xn (q:Qy)(L:QL)(w:World)(hf:q.bS.size<=4611686018427387904)(hn:L.i.n<=4611686018427387904/\L.o.n<=4611686018427387904/\L.l.n<=4611686018427387904)(h0:¬200 < L.i.n)(h1:¬200 < L.o.n)(h2:200 < L.l.n):ar 21 #[.agg (NN q L)] w (qQ w):=by
 open zbu in exact Zaz
theorem zgL.KbL(h:p:=by have t3:decide ((200:Int)<(L.l.n:Int))=false:=decide_eq_false Tq;have t4:decide ((5000:Int)<(q.bS.size:Int))=true:=decide_eq_true Tq;clear h0 h1 h2 h3;exact ZbE):p:=h
theorem zay.KW(h:p:=by rw[<- pT] at nD z1 x2 x3 x5 x7 x8 x9 Yb x14 x16 Rz RD x24 x27 ⊢;clear pT;open zgL in exact Zez):p:=h
theorem zfF.Kbn(h:p:=by simp only[Uaa] at z1 x2 x3 x5 x7 x8 x9 Yb x14 x16 Rz RD x24 x27;open zay in exact Zah):p:=h
theorem zbv.Kag(h:p:=by open zfF in exact ZdH):p:=h
theorem Xo (q:Qy)(L:QL)(w:World)(hf:q.bS.size<=4611686018427387904)(hn:L.i.n<=4611686018427387904/\L.o.n<=4611686018427387904/\L.l.n<=4611686018427387904)(h0:¬200 < L.i.n)(h1:¬200 < L.o.n)(h2:¬200 < L.l.n)(h3:5000 < q.bS.size):ar 21 #[.agg (NN q L)] w (qQ w):=by
 open zbv in exact Zaz
variable{base:Nat}{v:Value}{ys:List Ex}
theorem aeU{w:World}   (h:aH bF 46 7 w base v ys):∃A c,v=.slice A ys.length c/\RE w w.heap.size A ys:=by
 obtain⟨A,c,hv,hc⟩:=eh (f:=bF) (size:=7) (λ _=>rfl) h;refine⟨A,c,hv,?_⟩;rcases hc with hc |⟨g,hA,hg,hc⟩
 ·exact .inl hc
 ·refine .inr ⟨g,0,hA,hg,λ i x hx=>?_⟩;have c0:=hc i x 0 _ hx Tq rfl;have c1:=hc i x 1 _ hx Tq rfl;have c2:=hc i x 2 _ hx Tq rfl;have c3:=hc i x 3 _ hx Tq rfl;have c4:=hc i x 4 _ hx Tq rfl;have c5:=hc i x 5 _ hx Tq rfl;have c6:=hc i x 6 _ hx Tq rfl;unfold ck;rw[Nat.zero_add];exact⟨by simpa using c0,c1,c2,c3,c4,c5,c6⟩
theorem Hj (q:Qy)(w:World)(v:Value)(ys:List Ex)(base:Nat)(ho:aH bF 46 7 w base v ys)(ht:Tr.aO w (Old w) q.all ys)(aZ:Tr.cO q.all)(hl:q.all.length<=1599289640356):ar 22 #[v] w λ e w'=>e=.returned (af (Tr.dE 0 q.all))/\aj w w':=by obtain⟨A,c,rfl,GF⟩:=aeU ho;rw[Tr.aO.length ht];exact Si A c q.all ys w hl ht GF (Tr.Bv q.all ys w aZ ht)
theorem zh4.Kci(h:p:=by exact⟨_,rfl,hb4⟩):p:=h
theorem zgM.KbL(h:p:=by
 have t3:decide ((200:Int)<(L.l.n:Int))=false:=decide_eq_false Tq;have t4:decide ((5000:Int)<(q.bS.size:Int))=false:=decide_eq_false Tq;clear h0 h1 h2 h3;go_upto_region 3 with fail;clear t1 t2 t3 t4 z1 x3 x5 x8 x9 Yb x14 x16 Rz x24 x27;go_wp2_with fail;go_loopw [3] (λ iv wr=>iv=af 0/\wr=W1) (λ _ _=>0);case atStart=>exact⟨rfl,rfl⟩
 case round=>
  obtain⟨rfl,rfl⟩:=hrel;go_wp2_with fail;go_loopw [4] (λ iv wr2=>iv=af 0/\wr2=wr) (λ _ _=>0);case atStart=>exact⟨rfl,rfl⟩
  case round=>
   obtain⟨rfl,rfl⟩:=hrel;clear x2;go_wp2_with fail;clear RD;generalize wr=wz at*;go_loopw [5] (λ iv wr2=>∃k:Nat,k<=L.i.n/\iv=af k/\wr2=wz) (λ iv _=>L.i.n - (intOf iv).toNat);case atStart=>exact⟨0,Nat.zero_le _,rfl,rfl⟩
   case round=>
    obtain⟨k,hk,rfl,rfl⟩:=hrel;by_cases hlt:k < L.i.n
    ·have hkz:k < zi.length:=by rw[oC.ae];exact hlt
     obtain⟨b,off,hA,kG,bU⟩:∃b off,L.i.A=some ⟨b,off,none⟩/\b < w.heap.size/\w.cell? ⟨b,off+k*8+7,none⟩=some zi[k].2:=by
      rcases HF.ae with h |⟨b,off,h1,h2,h3⟩
      ·rw[h] at hkz;simp at hkz
      ·exact⟨b,off,h1,h2,(h3 k _ (getElem?_eq_getElem hkz)).2⟩
     obtain⟨sv2,De⟩:=J2.ae k zi[k] (getElem?_eq_getElem hkz);rw[De] at bU;have hc2:=(eL.ae.cell (p:=⟨b,off+k*8+7,none⟩) kG).trans bU;rw[hA] at x7;clear hA De bU hkz;by_cases h5:100 < sv2.size
     ·have t5:decide ((100:Int)<(sv2.size:Int))=true:=decide_eq_true Tq;exact ZbE
     ·have t5:decide ((100:Int)<(sv2.size:Int))=false:=decide_eq_false Tq;go_wp2_with fail;go_roundw;case rel=>first | exact⟨k+1,hlt,by go_num,trivial⟩| exact⟨k+1,hlt,by go_num,rfl⟩
      case measure=>exact Za2
    ·have hsz:(Tryz.prog.info? 64).map (·.size)=some (NN q L).size:=by show _=some 28;kernel_rfl
     go_wp2_with (first
      |(refine wpList_load_row rfl 64 (.tmp 1) rfl gs rfl 64 (NN q L) (0,0) _ yB.ae Tryz.underlying64 rfl hsz ?_))
     refine(HEX.ae _ eL.ae).mono ?_;rintro e w3 ⟨v3,ys,rfl,o3,tt,b3⟩;have O3:=aa o3;have TT:=aa (Tr.aO.later tt b3);have tD:=aa (Below.trans eL.ae (b3.mono eL.ae.size));clear o3 tt b3 x7;open zh4 in exact Zgs):p:=h
theorem zaz.KW(h:p:=by rw[<- pT] at nD z1 x2 x3 x5 x7 x8 x9 Yb x14 x16 Rz RD x24 x27 ⊢;clear pT;have yB:=aa (show aB W1 gs 64 (NN q L)from nD.ae);clear nD;open zgM in exact Zez):p:=h
theorem zfG.Kbn(h:p:=by simp only[Uaa] at z1 x2 x3 x5 x7 x8 x9 Yb x14 x16 Rz RD x24 x27;open zaz in exact Zah):p:=h
theorem zbw.Kag(h:p:=by open zfG in exact ZdH):p:=h
theorem Xp (q:Qy)(L:QL)(w:World)(hq:pW w q L)(hlen:q.items.length+q.cC.length+q.aL.length+q.ft.length+q.ord.length<=1100000)(aZ:Tr.cO q.all)(hf:q.bS.size<=4611686018427387904)(hn:L.i.n<=4611686018427387904/\L.o.n<=4611686018427387904/\L.l.n<=4611686018427387904)(h0:¬200 < L.i.n)(h1:¬200 < L.o.n)(h2:¬200 < L.l.n)(h3:¬5000 < q.bS.size):
  ar 21 #[.agg (NN q L)] w (qQ w):=by
 have HEX:=aa (λ W (hW:aj w W)=>uA (k:=0) q L W (hq.later hW) hlen);obtain⟨hni,zi,hri,hzb,_⟩:=hq.i;have HF:=aa hri;have hzl:zi.length=L.i.n:=by have:=congrArg List.length hzb;simp at this;rw[hni];simpa using this
 have oC:=aa hzl;have J2:=aa (show∀(i:Nat) (x:Ex×Value),zi[i]?=some x->∃s:ByteArray,x.2=Value.string s from λ i x hx=>by
  have h1:=congrArg (λ l=>l[i]?) hzb
  simp only[getElem?_map,hx,Option.map_some] at h1
  cases hy:q.items[i]? with
  | none=>rw[hy] at h1;cases h1
  | some y=>
    rw[hy] at h1
    injection h1 with h1
    exact⟨_,h1⟩)
 have iV:=aa aZ;have Cb:=aa (show q.all.length<=1599289640356 by unfold Qy.all;simp only[length_append,length_map];omega);clear hq hlen aZ hzb hri hni;open zbw in exact Zaz
theorem Nv (q:Qy)(L:QL)(w:World)(hq:pW w q L)(hlen:q.items.length+q.cC.length+q.aL.length+q.ft.length+q.ord.length<=1100000)(aZ:Tr.cO q.all)(hf:q.bS.size<=4611686018427387904)(hn:L.i.n<=4611686018427387904/\L.o.n<=4611686018427387904/\L.l.n<=4611686018427387904):
  ar 21 #[.agg (NN q L)] w (qQ w):=by
 by_cases h0:200 < L.i.n
 ·exact Xl q L w hf hn h0
 by_cases h1:200 < L.o.n
 ·exact Xm q L w hf hn h0 h1
 by_cases h2:200 < L.l.n
 ·exact Xn q L w hf hn h0 h1 h2
 by_cases h3:5000 < q.bS.size
 ·exact Xo q L w hf hn h0 h1 h2 h3
 exact Xp q L w hq hlen aZ hf hn h0 h1 h2 h3
structure GOK (q:Qy) (cols:List aX) (rows:List aW):Prop where
 cl:cols.length<=20
 rn:rows.length<=100
 g:q.aL.length<=20
 w:q.cC.length<=20
 h:q.ft.length<=20
 i:q.items.length<=20
 o:q.ord.length<=20
 each:∀r∈rows,r.l.length<=30
 size:Tr.dE 0 q.all<=300
def JV (q:Qy)(cols:List aX)(rows:List aW)(w:World)(e:Ending)(w':World):Prop:=∃b:Bool,e=.returned (.bool b)/\aj w w'/\(b=false->GOK q cols rows)
theorem zh3.Kci(h:p:=by refine⟨_,rfl,hb4,λ h=>?_⟩;obtain⟨g1,g2,g3,g4,g5,g6,g7⟩:=XF.ae;exact⟨g1,g2,by rw[<- XR.ae];exact g3,by rw[<- HNW.ae];exact g4,by rw[<- HNH.ae];exact g5,by rw[<- HNI.ae];exact g6,by rw[<- HNO.ae];exact g7,HEA.ae,by have:=of_decide_eq_false h;omega⟩):p:=h
theorem zeB.KaZ(h:p:=by
 have x7:=cK.cell 7;unfold fp at y0 y1 y2 y3 y4 y5 y6 x7;simp only[Uaa] at y0 y1 y2 y3 y4 y5 y6 x7;have yes:∀w2,aj w w2->JV q cols rows w (.returned (.bool true)) w2:=λ w2 h=>⟨true,rfl,h,λ h=>by cases h⟩
 have YES:=aa yes;obtain⟨uV,Um,hn3⟩:=hn;unfold fp at QU N3;clear hq hlen aZ b1 cK hr kH yes;go_enter Tryz.func9,Tryz.ntmps9;go_upto_region 1 with fail;generalize w.alloc _=W1 at*;obtain⟨g,hg⟩:∃g,g=w.heap.size:=⟨_,rfl⟩;rw[<- hg] at N3 y0 y1 y2 y3 y4 y5 y6 x7 ⊢;have HGQ:=aa hg;clear hg;go_wp2_with fail;have hgr:=xT.ae _ QU.ae;unfold NN at hgr;refine hgr.mono ?_;rintro e W2 ⟨b,rfl,hL⟩;have eL:=aa (Below.trans QU.ae (hL.mono QU.ae.size));have HX:=aa (N3.ae.later hL);have y0:=(HX.ae.cell 0);have y1:=HX.ae.cell 1;have y2:=HX.ae.cell 2;have y3:=HX.ae.cell 3;have y4:=HX.ae.cell 4;have y5:=HX.ae.cell 5;have y6:=HX.ae.cell 6;have x7:=HX.ae.cell 7;simp only[Uaa] at y0 y1 y2 y3 y4 y5 y6 x7;clear hgr hL;have XM:=aa (HR.ae.later eL.ae);cases b;case true=>exact ZbE
 by_cases h0:20 < cols.length
 ·have t0:decide ((20:Int)<(cols.length:Int))=true:=decide_eq_true Tq;exact ZbE
 by_cases h1:100 < rows.length
 ·have t0:decide ((20:Int)<(cols.length:Int))=false:=decide_eq_false Tq;have t1:decide ((100:Int)<(rows.length:Int))=true:=decide_eq_true Tq;exact ZbE
 by_cases h2:20 < L.g.n
 ·have t0:decide ((20:Int)<(cols.length:Int))=false:=decide_eq_false Tq;have t1:decide ((100:Int)<(rows.length:Int))=false:=decide_eq_false Tq;have t2:decide ((20:Int)<(L.g.n:Int))=true:=decide_eq_true Tq;exact ZbE
 by_cases h3:20 < L.w.n
 ·have t0:decide ((20:Int)<(cols.length:Int))=false:=decide_eq_false Tq;have t1:decide ((100:Int)<(rows.length:Int))=false:=decide_eq_false Tq;have t2:decide ((20:Int)<(L.g.n:Int))=false:=decide_eq_false Tq;have t3:decide ((20:Int)<(L.w.n:Int))=true:=decide_eq_true Tq;exact ZbE
 by_cases h4:20 < L.h.n
 ·have t0:decide ((20:Int)<(cols.length:Int))=false:=decide_eq_false Tq;have t1:decide ((100:Int)<(rows.length:Int))=false:=decide_eq_false Tq;have t2:decide ((20:Int)<(L.g.n:Int))=false:=decide_eq_false Tq;have t3:decide ((20:Int)<(L.w.n:Int))=false:=decide_eq_false Tq;have t4:decide ((20:Int)<(L.h.n:Int))=true:=decide_eq_true Tq;exact ZbE
 by_cases h5:20 < L.i.n
 ·have t0:decide ((20:Int)<(cols.length:Int))=false:=decide_eq_false Tq;have t1:decide ((100:Int)<(rows.length:Int))=false:=decide_eq_false Tq;have t2:decide ((20:Int)<(L.g.n:Int))=false:=decide_eq_false Tq;have t3:decide ((20:Int)<(L.w.n:Int))=false:=decide_eq_false Tq;have t4:decide ((20:Int)<(L.h.n:Int))=false:=decide_eq_false Tq;have t5:decide ((20:Int)<(L.i.n:Int))=true:=decide_eq_true Tq;exact ZbE
 by_cases h6:20 < L.o.n
 ·have t0:decide ((20:Int)<(cols.length:Int))=false:=decide_eq_false Tq;have t1:decide ((100:Int)<(rows.length:Int))=false:=decide_eq_false Tq;have t2:decide ((20:Int)<(L.g.n:Int))=false:=decide_eq_false Tq;have t3:decide ((20:Int)<(L.w.n:Int))=false:=decide_eq_false Tq;have t4:decide ((20:Int)<(L.h.n:Int))=false:=decide_eq_false Tq;have t5:decide ((20:Int)<(L.i.n:Int))=false:=decide_eq_false Tq;have t6:decide ((20:Int)<(L.o.n:Int))=true:=decide_eq_true Tq;exact ZbE
 have t0:decide ((20:Int)<(cols.length:Int))=false:=decide_eq_false Tq;have t1:decide ((100:Int)<(rows.length:Int))=false:=decide_eq_false Tq;have t2:decide ((20:Int)<(L.g.n:Int))=false:=decide_eq_false Tq;have t3:decide ((20:Int)<(L.w.n:Int))=false:=decide_eq_false Tq;have t4:decide ((20:Int)<(L.h.n:Int))=false:=decide_eq_false Tq;have t5:decide ((20:Int)<(L.i.n:Int))=false:=decide_eq_false Tq;have t6:decide ((20:Int)<(L.o.n:Int))=false:=decide_eq_false Tq;have XF:=aa (show cols.length<=20/\rows.length<=100/\L.g.n<=20/\L.w.n<=20/\L.h.n<=20/\L.i.n<=20/\L.o.n<=20 from⟨by omega,by omega,by omega,by omega,by omega,by omega,by omega⟩);go_upto_region 3 with fail;clear t0 t1 t2 t3 t4 t5 t6;go_wp2_with fail;go_loopw [7,8] (λ iv _ wr=>∃Kx:Nat,Kx<=rows.length/\iv=af Kx/\W2=wr/\∀j,j < Kx->∀r,rows[j]?=some r->r.l.length<=30) (λ iv _ _=>rows.length - (intOf iv).toNat);case atStart=>exact⟨0,Nat.zero_le _,rfl,rfl,λ j hj=>absurd hj Tq⟩
 case round=>
  obtain⟨Kx,KK,rfl,rfl,hp⟩:=hrel;have HP:=aa hp;clear hp;have hk9:Kx<=100:=by have:=XF.ae.2.1;omega
  by_cases hlt:Kx < rows.length
  ·obtain⟨b,off,rfl,kG,bU,uY⟩:=XM.ae.at_ hlt;have hrw:=QF.ae _ (getElem_mem hlt);have Bi:=aa uY;have HIK:=aa (getElem?_eq_getElem hlt);clear uY;obtain⟨r,GF⟩:∃r,r=rows[Kx]:=⟨_,rfl⟩;rw[<- GF] at Bi bU HIK hrw;clear GF;by_cases h5:30 < r.l.length
   ·have t5:decide ((30:Int)<(r.l.length:Int))=true:=decide_eq_true Tq;exact ZbE
   have t5:decide ((30:Int)<(r.l.length:Int))=false:=decide_eq_false Tq;go_wp2_with fail;go_loopw [8] (λ jv wr2=>∃k:Nat,k<=r.l.length/\jv=af k/\W2=wr2) (λ jv _=>r.l.length - (intOf jv).toNat);case atStart=>exact⟨0,Nat.zero_le _,rfl,rfl⟩
   case round=>
    obtain⟨k,hk,rfl,rfl⟩:=hrel;by_cases hlm:k < r.l.length
    ·obtain⟨b3,aDv,hA,hb3,XC⟩:=Bi.ae.at_ hlm;unfold ed at XC;obtain⟨_,_,De⟩:=XC;rw[hA] at bU;clear hA;obtain⟨sv,aqI⟩:∃sv,sv=r.l[k].s:=⟨_,rfl⟩;rw[<- aqI] at De;clear aqI;by_cases h6:300 < sv.size
     ·have t6:decide ((300:Int)<(sv.size:Int))=true:=decide_eq_true Tq;exact ZbE
     ·have t6:decide ((300:Int)<(sv.size:Int))=false:=decide_eq_false Tq;go_wp2_with fail;go_roundw;case rel=>exact⟨k+1,hlm,by go_num,trivial⟩
      case measure=>exact Za2
    ·go_wp2_with fail;go_roundw
     case rel=>
      refine⟨Kx+1,hlt,by go_num,?_⟩
      have mg:∀j,j < Kx+1->∀r2,rows[j]?=some r2->r2.l.length<=30:=by
       intro j hj r2 hr2;rcases Nat.lt_or_ge j Kx with h | h
       ·exact HP.ae j h r2 hr2
       ·have:j=Kx:=by omega
        subst this;rw[HIK.ae] at hr2;injection hr2 with hr2;subst hr2;omega
      first
      | exact mg
      | exact⟨rfl,mg⟩
      | exact⟨trivial,mg⟩
     case measure=>exact Za2
  ·have fJ:Kx=rows.length:=by omega
   have HEA:=aa (show∀r∈rows,r.l.length<=30 from λ r hr=>by
    obtain⟨i,hi,he⟩:=getElem_of_mem hr
    exact HP.ae i Tq r Taw)
   clear fJ;go_wp2_with fail;have hex:=HEX.ae _ eL.ae;unfold NN at hex;refine hex.mono ?_;rintro e w3 ⟨v3,ys,rfl,o3,tt,b3⟩;have O3:=aa o3;have TT:=aa (Tr.aO.later tt b3);have tD:=aa (Below.trans eL.ae (b3.mono eL.ae.size));clear o3 tt b3 y0 y1 y2 y3 y4 y5 y6 x7 hex;open zh3 in exact Zgs):p:=h
theorem Xq (q:Qy)(L:QL)(CA:Option Addr)(cc:Nat)(cols:List aX)(RA:Option Addr)(rc:Nat)(rows:List aW)(w:World)(hq:pW w q L)(hlen:q.items.length+q.cC.length+q.aL.length+q.ft.length+q.ord.length<=1100000)(aZ:Tr.cO q.all)(hf:q.bS.size<=4611686018427387904)(hn:L.i.n<=4611686018427387904/\L.o.n<=4611686018427387904/\L.l.n<=4611686018427387904)(hr:RR w w.heap.size RA rows)(NW:rows.length<=4611686018427387904)(bU:cols.length<=4611686018427387904)(kH:∀r∈rows,r.l.length<=4611686018427387904):
  ar 9 #[oy q L,.slice CA cols.length cc,.slice RA rows.length rc] w (JV q cols rows w):=by have HEX:=aa (λ W (hW:aj w W)=>uA (k:=0) q L W (hq.later hW) hlen);have xT:=aa (λ W (hW:aj w W)=>Nv q L W (hq.later hW) hlen aZ hf hn);have iV:=aa aZ;have Cb:=aa (show q.all.length<=1599289640356 by unfold Qy.all;simp only[length_append,length_map];omega);have XR:=aa hq.g.n;have HNW:=aa hq.w.n;have HNH:=aa hq.h.n;have HNI:=aa (show L.i.n=q.items.length by have:=hq.i.n;simpa using this);have HNO:=aa (show L.o.n=q.ord.length by have:=hq.o.n;simpa using this);have HR:=aa hr;have QF:=aa kH;have b1:=ah w (.cells (fp q L) 27);have cK:=aB.new w 27 (fp q L);have QU:=aa b1;have N3:=aa cK;unfold oy;open zeB in exact Zcx
theorem Xr:Tryz.prog.cellsOf 38=1:=by exact Zgu
theorem Xs:Tryz.prog.bytesOf 38=24:=by exact Zgu
theorem DU:Tryz.prog.cellsOf 48=8:=by exact Zgu
theorem Hk:Tryz.prog.cellsOf 117=8:=by exact Zgu
theorem RF:Tryz.prog.bytesOf 48=104:=by exact Zgu
theorem Xt:Tryz.prog.bytesOf 117=96:=by exact Zgu
theorem Nw:Tryz.prog.cellsOf 22=1:=by exact Zgu
theorem RG:Tryz.prog.cellsOf 24=1:=by exact Zgu
theorem RH:Tryz.prog.cellsOf 25=1:=by exact Zgu
theorem DV:Tryz.prog.cellsOf 4=1:=by exact Zgu
theorem Nx:Tryz.prog.cellsOf 27=8:=by exact Zgu
section
variable {H:Type} {enc:TypeId×Value->H} {w:World} {base:Nat} {spare:Nat->Bool} {held:Bool}
theorem xa (d:DataW H):1<=Rows.uptoBulk d:=by
 cases d with
 | lit l=>cases l <;> simp[Rows.uptoBulk]
 | nil=>exact Zgz
 | ptr d=>exact Zgz
 | slice elems spare=>exact Zgz
 | agg parts=>exact Zgz
 | iface t d=>exact Zgz
 | map entries=>exact Zgz
 | held h=>exact Zgz
theorem Ny:∀l:List (DataW H),l.length<=Rows.uptoBulkAll l
 | []=>by simp[Rows.uptoBulkAll]
 | d::l=>by have:=xa d;have:=Ny l;simp only[Rows.uptoBulkAll,length_cons];omega
theorem zeQ.Ka3(h:p:=by
 obtain⟨l,Ig,hp⟩:=pick len (P:=λ i a=>(∀d,(elems.map (·.1))[i]?=some d->P a d)/\∀j,j < K->w.cell? ⟨b,off+i*K+j,none⟩=(f a)[j]?) λ i hi=>by obtain⟨a,ha,hca⟩:=np i hi;refine⟨a,ha,λ j hj=>?_⟩;have:=hca j hj;simp only[dC] at this;exact this
 subst Ig;refine⟨some ⟨b,off,none⟩,l,cap,elems.map (·.1),rfl,by rw[length_map,hlen],jV,λ i a d ha hd=>(hp i a ha).1 d hd,hb2,.inr ⟨b,off,rfl,hbl,λ i x j u hx hu=>?_⟩⟩;exact Zel):p:=h
theorem zhF.Kb7(h:p:=by
 have jV:Rows.uptoBulkAll (elems.map (·.1))+1<=Rows.uptoBulk (DataW.slice (elems.map (·.1)) (rest.map (·.1))):=by simp only[Rows.uptoBulk];omega
 rcases Nat.eq_zero_or_pos len with h0 | h0
 ·subst h0;exact⟨some ad,[],cap,[],rfl,rfl,xa _,by simp,by simp,.inl rfl⟩
 have np:∀i,i < len->∃a:α,(∀d,(elems.map (·.1))[i]?=some d->P a d)/\∀j,j < K->w.cell? ((ad.add (i*K)).add j)=(f a)[j]?:=by intro i hi;have h1:=he i hi;rw[getElem?_eq_getElem Tq,hc] at h1;obtain⟨cs,h2,h3⟩:=Option.bind_eq_some_iff.1 h1;obtain⟨a,rfl,ha⟩:=hel n Tq cs _ h3 (OE _ (List.mem_map.2 ⟨_,getElem_mem _,rfl⟩));refine⟨a,λ d hd=>?_,(YI h2).2⟩;rw[getElem?_map,getElem?_eq_getElem Tq] at hd;injection hd with hd;rw[<- hd];exact ha
 open zeQ in exact ZcM):p:=h
theorem iI {α:Type}(f:α->List Value)(P:α->DataW H->Prop)(K:Nat) {T e:TypeId}(hT:Tryz.prog.underlying T=some (.slice e))(hc:Tryz.prog.cellsOf e=K)(hK:0 < K)(hf:∀x,(f x).length=K) {fuel:Nat} {cs:List Value} {x:DataW H×List MemPlace}
  (hel:∀m,m < fuel->∀cs x,DataW.trod enc Tryz.prog w base spare held m e cs=some x->Light e x.1->∃a,cs=f a/\P a x.1) (h:DataW.trod enc Tryz.prog w base spare held fuel T cs=some x) (hw:Light T x.1):
  ∃(A:Option Addr) (l:List α) (c:Nat) (es:List (DataW H)),cs=[.slice A l.length c]/\es.length=l.length/\Rows.uptoBulkAll es+1<=Rows.uptoBulk x.1/\(∀(i:Nat) (a:α) (d:DataW H),l[i]?=some a->es[i]?=some d->P a d)/\l.length*Tryz.prog.bytesOf e<=reachBytes/\(l=[]\/∃b off,A=some ⟨b,off,none⟩/\b < w.heap.size/\∀i x j u,l[i]?=some x->(f x)[j]?=some u->w.cell? ⟨b,off+i*K+j,none⟩=some u):=by
 rcases DataW.trod_slice hT h with ⟨hcs,_⟩|⟨ad,len,cap,elems,rest,n,hn,hcs,hx,_,hl,hm,hlen,he,_,_⟩
 ·exact⟨none,[],0,[],hcs,rfl,xa _,by simp,by simp,.inl rfl⟩
 ·open zhF in exact ZfP
theorem DX (s:ByteArray):Rows.uptoBulk (DataW.lit (H:=H) (.string s.data.toList))=s.size+1:=by exact Zgz
theorem Z4 {fuel:Nat} {cs:List Value} {x:DataW H×List MemPlace}(h:DataW.trod enc Tryz.prog w base spare held fuel 44 cs=some x):∃a:Val,cs=[ag a.k,af a.n,.string a.s]/\(a.Ok/\0<=a.k/\a.k<=255)/\a.s.size<=Rows.uptoBulk x.1:=by
 obtain⟨y0,y1,y2,n,hx,hl,t0,t1,t2⟩:=Deep.trod_struct3 Tryz.underlying44 h;rw[mN] at hl
 match cs,hl with
 | [c0,c1,c2],_=>simp only[gC,vG,si,drop_succ_cons,drop_zero,take_succ_cons,take_zero] at t0 t1 t2;obtain⟨n0,q0,_,f0⟩:=DataW.trod_int Tryz.underlying5 t0;obtain⟨n1,q1,_,f1⟩:=DataW.trod_int Tryz.underlying2 t1;obtain⟨s,q2,z2,f2⟩:=DataW.trod_string Tryz.underlying9 t2;simp at q0 q1 q2;subst q0 q1 q2;refine⟨⟨n0,n1,s⟩,rfl,⟨Ie f1,Sh f0⟩,?_⟩;subst hx;have e:=congrArg (λ y=>Rows.uptoBulk y.1) z2;simp only[DX] at e;simp only[Rows.uptoBulk,Rows.uptoBulkAll];show s.size<=_;omega
structure ow (w:World) (p:Ex×Tr) (d:DataW H):Prop where
 at_:p.2.at_ w (Old w) p.1
 ok:p.2.ok
 nodes:p.2.nodes<=Rows.uptoBulk d
 small:Rows.uptoBulk d<=1048576->p.2.small
structure Z5 (w:World) (l:List (Ex×Tr)) (n:Nat):Prop where
 at_:Tr.aO w (Old w) (l.map (·.2)) (l.map (·.1))
 ok:Tr.cO (l.map (·.2))
 nodes:Tr.aQ (l.map (·.2))<=n
 small:n<=1048576->Tr.smalls (l.map (·.2))
theorem iJ:∀(l:List (Ex×Tr)) (es:List (DataW H)),es.length=l.length->(∀(i:Nat) (a:Ex×Tr) (d:DataW H),l[i]?=some a->es[i]?=some d->ow w a d)->Z5 w l (Rows.uptoBulkAll es)
 | [],es,_,_=>by
   refine⟨?_,?_,?_,λ _=>?_⟩
   ·simp[Tr.aO]
   ·simp[Tr.cO]
   ·simp[Tr.aQ]
   ·simp[Tr.smalls]
 | p::l,[],h,_=>by simp at h
 | p::l,d::es,h,hp=>by
   have h0:=hp 0 p d rfl rfl;have hr:=iJ l es Tah λ i a d h1 h2=>hp (i+1) a d Ta2 (by simpa using h2)
   simp only[Rows.uptoBulkAll];refine⟨?_,?_,?_,λ hn=>?_⟩
   ·simp only[map_cons];unfold Tr.aO;exact⟨_,_,rfl,h0.at_,hr.at_⟩
   ·simp only[map_cons];unfold Tr.cO;exact⟨h0.ok,hr.ok⟩
   ·simp only[map_cons];unfold Tr.aQ;have:=h0.nodes;have:=hr.nodes;omega
   ·simp only[map_cons];unfold Tr.smalls;exact⟨h0.small Tq,hr.small Tq⟩
theorem lI {A:Option Addr} {l:List (Ex×Tr)}(bU:l=[]\/∃b off,A=some ⟨b,off,none⟩/\b < w.heap.size/\∀i x j u,l[i]?=some x->(fc x.1)[j]?=some u->w.cell? ⟨b,off+i*7+j,none⟩=some u):Yw w (Old w) A (l.map (·.1)):=by
 rcases bU with bU |⟨b,off,rfl,hb,bU⟩
 ·exact .inl (by simp[bU])
 ·refine .inr ⟨b,off,rfl,hb,λ i y hy=>?_⟩;obtain⟨p,hp,rfl⟩:∃p,l[i]?=some p/\p.1=y:=by simpa [getElem?_map] using hy
  have k:=λ j u hu=>bU i p j u hp hu
  exact⟨k 0 _ rfl,k 1 _ rfl,k 2 _ rfl,k 3 _ rfl,k 4 _ rfl,k 5 _ rfl,k 6 _ rfl⟩
theorem ox:∀(fuel:Nat) (cs:List Value) (x:DataW H×List MemPlace),DataW.trod enc Tryz.prog w base spare held fuel 46 cs=some x->Light 46 x.1->∃p:Ex×Tr,cs=fc p.1/\ow w p x.1:=by
 intro fuel
 induction fuel using Nat.strongRecOn with
 | _ fuel ih=>
   intro cs x h hw;obtain⟨xs,n,hn,hx,hl,hlen,hf⟩:=DataW.trod_struct Tryz.underlying46 h;rw[iu] at hl;subst hx
   match xs,hlen with
   | [y0,y1,y2,y3,y4],_=>
   match cs,hl with
   | [c0,c1,c2,c3,c4,c5,c6],_=>
     have t0:DataW.trod enc Tryz.prog w base spare held n 5 (([c0,c1,c2,c3,c4,c5,c6].drop 0).take (Tryz.prog.cellsOf 5))=some y0:=(hf 0 _ rfl);have t1:DataW.trod enc Tryz.prog w base spare held n 44 (([c0,c1,c2,c3,c4,c5,c6].drop 1).take (Tryz.prog.cellsOf 44))=some y1:=(hf 1 _ rfl);have t2:DataW.trod enc Tryz.prog w base spare held n 9 (([c0,c1,c2,c3,c4,c5,c6].drop 4).take (Tryz.prog.cellsOf 9))=some y2:=(hf 2 _ rfl);have t3:DataW.trod enc Tryz.prog w base spare held n 2 (([c0,c1,c2,c3,c4,c5,c6].drop 5).take (Tryz.prog.cellsOf 2))=some y3:=(hf 3 _ rfl);have t4:DataW.trod enc Tryz.prog w base spare held n 23 (([c0,c1,c2,c3,c4,c5,c6].drop 6).take (Tryz.prog.cellsOf 23))=some y4:=(hf 4 _ rfl);rw[vG] at t0;rw[mN] at t1;rw[gC] at t2;rw[si] at t3;rw[yH] at t4;simp only[drop_succ_cons,drop_zero,take_succ_cons,take_zero] at t0 t1 t2 t3 t4;obtain⟨n0,q0,_,f0⟩:=DataW.trod_int Tryz.underlying5 t0;obtain⟨a,qa,⟨ha,Ec,hk2⟩,has⟩:=Z4 t1;obtain⟨s,q2,z2,f2⟩:=DataW.trod_string Tryz.underlying9 t2;obtain⟨n3,q3,_,f3⟩:=DataW.trod_int Tryz.underlying2 t3;have hl4:Light 23 y4.1:=oQ (j:=4) (d:=y4.1) Tryz.underlying46 hw rfl rfl;obtain⟨A,l,c,es,q4,hel,jV,hP,hby,bU⟩:=iI (λ p:Ex×Tr=>fc p.1) (λ p d=>ow w p d) 7 Tryz.underlying23 iu Tq (λ _=>rfl) (λ m hm cs x h1 h2=>ih m Tq cs x h1 h2) t4 hl4;have hT:=iJ l es hel hP;simp at q0 qa q2 q3 q4;obtain⟨rfl,rfl,rfl⟩:=qa;subst q0 q2 q3 q4;rw[Br] at hby;have Ig:l.length<=1599289640356:=by unfold reachBytes at hby;omega
     have e2:Rows.uptoBulk y2.1=s.size+1:=by rw[z2];exact DX s
     have eb:Rows.uptoBulk (DataW.agg (List.map (λ x=>x.1) [y0,y1,y2,y3,y4]))=Rows.uptoBulk y0.1+(Rows.uptoBulk y1.1+(Rows.uptoBulk y2.1+(Rows.uptoBulk y3.1+(Rows.uptoBulk y4.1+0))))+1:=by simp only[map_cons,map_nil,Rows.uptoBulk,Rows.uptoBulkAll]
     have hb0:=xa y0.1;refine⟨(⟨n0,a,s,n3,A,l.length,c⟩,.mk n0 a s n3 (l.map (·.2))),rfl,?_,?_,?_,?_⟩
     ·dsimp only;unfold Tr.at_;exact⟨rfl,rfl,rfl,rfl,by simp,l.map (·.1),lI bU,hT.at_⟩
     ·dsimp only;unfold Tr.ok;exact⟨ha,by simpa using Ig,Sh f0,Ie f3,⟨Ec,hk2⟩,hT.ok⟩
     ·show Tr.nodes _<=Rows.uptoBulk (DataW.agg (List.map (λ x=>x.1) [y0,y1,y2,y3,y4]));rw[eb];unfold Tr.nodes;have:=hT.nodes;omega
     ·intro hsm;have hsm:Rows.uptoBulk (DataW.agg (List.map (λ x=>x.1) [y0,y1,y2,y3,y4]))<=1048576:=hsm;rw[eb] at hsm;unfold Tr.small;exact⟨by omega,by omega,hT.small Tq⟩
end
section
variable {H:Type} {enc:TypeId×Value->H} {w:World} {base:Nat} {spare:Nat->Bool} {held:Bool}
theorem ow.more {p:Ex×Tr} {d d':DataW H}(h:ow w p d)(hd:Rows.uptoBulk d<=Rows.uptoBulk d'):ow w p d':=⟨h.at_,h.ok,Nat.le_trans h.nodes hd,λ hs=>h.small Tq⟩
theorem Xu {fuel:Nat} {cs:List Value} {x:DataW H×List MemPlace}(h:DataW.trod enc Tryz.prog w base spare held fuel 48 cs=some x)(hw:Light 48 x.1):∃a:(Ex×Tr)×ByteArray,cs=fc a.1.1++ [.string a.2]/\ow w a.1 x.1:=by
 obtain⟨y0,y1,n,hx,hl,t0,t1⟩:=trod_struct2 Tryz.underlying48 h;rw[DU] at hl
 match cs,hl with
 | [c0,c1,c2,c3,c4,c5,c6,c7],_=>rw[iu] at t0;rw[gC] at t1;simp only[drop_succ_cons,drop_zero,take_succ_cons,take_zero] at t0 t1;subst hx;obtain⟨p,q0,hp⟩:=ox n _ _ t0 (oQ (j:=0) Tryz.underlying48 hw rfl rfl);obtain⟨s,q1,_,_⟩:=DataW.trod_string Tryz.underlying9 t1;exact ZdT
theorem RJ {fuel:Nat} {cs:List Value} {x:DataW H×List MemPlace}(h:DataW.trod enc Tryz.prog w base spare held fuel 117 cs=some x)(hw:Light 117 x.1):∃a:(Ex×Tr)×Bool,cs=fc a.1.1++ [.bool a.2]/\ow w a.1 x.1:=by
 obtain⟨y0,y1,n,hx,hl,t0,t1⟩:=trod_struct2 Tryz.underlying117 h;rw[Hk] at hl
 match cs,hl with
 | [c0,c1,c2,c3,c4,c5,c6,c7],_=>rw[iu] at t0;rw[DV] at t1;simp only[drop_succ_cons,drop_zero,take_succ_cons,take_zero] at t0 t1;subst hx;obtain⟨p,q0,hp⟩:=ox n _ _ t0 (oQ (j:=0) Tryz.underlying117 hw rfl rfl);obtain⟨s,q1,_⟩:=DataW.trod_bool Tryz.underlying4 t1;exact ZdT
theorem Z6 {γ:Type}(g:γ->Value) {A:Option Addr} {l:List ((Ex×Tr)×γ)} {n:Nat}(hT:Z5 w (l.map (·.1)) n)
  (bU:l=[]\/∃b off,A=some ⟨b,off,none⟩/\b < w.heap.size/\∀i x j u,l[i]?=some x->(fc x.1.1++ [g x.2])[j]?=some u->w.cell? ⟨b,off+i*8+j,none⟩=some u):eO w (l.map λ x=>(x.1.2,g x.2)) A l.length:=by
 refine⟨by simp,l.map λ x=>(x.1.1,g x.2),?_,by simp,?_⟩
 ·rcases bU with rfl |⟨b,off,rfl,hb,hc⟩
  ·exact .inl rfl
  ·refine .inr ⟨b,off,rfl,hb,λ i y hy=>?_⟩;obtain⟨p,hp,rfl⟩:∃p,l[i]?=some p/\(p.1.1,g p.2)=y:=by simpa [getElem?_map] using hy
   have k:=λ j u hu=>hc i p j u hp hu
   exact⟨⟨k 0 _ rfl,k 1 _ rfl,k 2 _ rfl,k 3 _ rfl,k 4 _ rfl,k 5 _ rfl,k 6 _ rfl⟩,k 7 _ rfl⟩
 ·have:=hT.at_;simp only[map_map] at this ⊢;exact this
theorem jR:∀ts:List Tr,ts.length<=Tr.aQ ts
 | []=>Nat.zero_le _
 | t::ts=>by have:=jR ts;unfold Tr.aQ;cases t;unfold Tr.nodes;rw[length_cons];omega
theorem Z7 {fuel:Nat} {cs:List Value} {x:DataW H×List MemPlace}(h:DataW.trod enc Tryz.prog w base spare held fuel 2 cs=some x):∃a:Int,cs=[af a]/\a<=9223372036854775807:=by obtain⟨n,q,_,f⟩:=DataW.trod_int Tryz.underlying2 h;exact⟨n,q,(Ie f).2⟩
structure QyD (w:World) (q:Qy) (L:QL) (n:Nat):Prop where
 at_:pW w q L
 ok:q.Ok
 nodes:Tr.aQ q.all<=n
 small:n<=1048576->Tr.smalls q.all/\q.bS.size<=1048576/\L.l.n<=1048576
 lim:∀x∈q.lim,x<=9223372036854775807
theorem RM {fuel:Nat} {cs:List Value} {x:DataW H×List MemPlace}(h:DataW.trod enc Tryz.prog w base spare held fuel 27 cs=some x)(hw:Light 27 x.1):∃q L,cs=(fp q L).toList/\QyD w q L (Rows.uptoBulk x.1):=by
 obtain⟨xs,n,hn,hx,hl,hlen,hf⟩:=DataW.trod_struct Tryz.underlying27 h;rw[Nx] at hl;subst hx
 match xs,hlen with
 | [y0,y1,y2,y3,y4,y5,y6,y7],_=>
 match cs,hl with
 | [c0,c1,c2,c3,c4,c5,c6,c7],_=>
   have t0:DataW.trod enc Tryz.prog w base spare held n 22 (([c0,c1,c2,c3,c4,c5,c6,c7].drop 0).take (Tryz.prog.cellsOf 22))=some y0:=(hf 0 _ rfl);have t1:DataW.trod enc Tryz.prog w base spare held n 9 (([c0,c1,c2,c3,c4,c5,c6,c7].drop 1).take (Tryz.prog.cellsOf 9))=some y1:=(hf 1 _ rfl);have t2:DataW.trod enc Tryz.prog w base spare held n 4 (([c0,c1,c2,c3,c4,c5,c6,c7].drop 2).take (Tryz.prog.cellsOf 4))=some y2:=(hf 2 _ rfl);have t3:DataW.trod enc Tryz.prog w base spare held n 23 (([c0,c1,c2,c3,c4,c5,c6,c7].drop 3).take (Tryz.prog.cellsOf 23))=some y3:=(hf 3 _ rfl);have t4:DataW.trod enc Tryz.prog w base spare held n 23 (([c0,c1,c2,c3,c4,c5,c6,c7].drop 4).take (Tryz.prog.cellsOf 23))=some y4:=(hf 4 _ rfl);have t5:DataW.trod enc Tryz.prog w base spare held n 23 (([c0,c1,c2,c3,c4,c5,c6,c7].drop 5).take (Tryz.prog.cellsOf 23))=some y5:=(hf 5 _ rfl);have t6:DataW.trod enc Tryz.prog w base spare held n 24 (([c0,c1,c2,c3,c4,c5,c6,c7].drop 6).take (Tryz.prog.cellsOf 24))=some y6:=(hf 6 _ rfl);have t7:DataW.trod enc Tryz.prog w base spare held n 25 (([c0,c1,c2,c3,c4,c5,c6,c7].drop 7).take (Tryz.prog.cellsOf 25))=some y7:=(hf 7 _ rfl);rw[Nw] at t0;rw[gC] at t1;rw[DV] at t2;rw[yH] at t3 t4 t5;rw[RG] at t6;rw[RH] at t7;simp only[drop_succ_cons,drop_zero,take_succ_cons,take_zero] at t0 t1 t2 t3 t4 t5 t6 t7;have lp:=λ(j:Nat) (f:Field) (d:DataW H)=>oQ (j:=j) (f:=f) (d:=d) Tryz.underlying27 hw
   obtain⟨A0,l0,k0,e0,q0,z0,b0,p0,u0,r0⟩:=iI (λ p:(Ex×Tr)×ByteArray=>fc p.1.1++ [.string p.2]) (λ p d=>ow w p.1 d) 8 Tryz.underlying22 DU Tq (λ _=>rfl) (λ m hm cs x h1 h2=>Xu h1 h2) t0 (lp 0 _ y0.1 rfl rfl);obtain⟨s1,q1,v1,_⟩:=DataW.trod_string Tryz.underlying9 t1;obtain⟨s2,q2,_⟩:=DataW.trod_bool Tryz.underlying4 t2;obtain⟨A3,l3,k3,e3,q3,z3,b3,p3,u3,r3⟩:=iI (λ p:Ex×Tr=>fc p.1) (λ p d=>ow w p d) 7 Tryz.underlying23 iu Tq (λ _=>rfl) (λ m hm cs x h1 h2=>ox m cs x h1 h2) t3 (lp 3 _ y3.1 rfl rfl);obtain⟨A4,l4,k4,e4,q4,z4,b4,p4,u4,r4⟩:=iI (λ p:Ex×Tr=>fc p.1) (λ p d=>ow w p d) 7 Tryz.underlying23 iu Tq (λ _=>rfl) (λ m hm cs x h1 h2=>ox m cs x h1 h2) t4 (lp 4 _ y4.1 rfl rfl);obtain⟨A5,l5,k5,e5,q5,z5,b5,p5,u5,r5⟩:=iI (λ p:Ex×Tr=>fc p.1) (λ p d=>ow w p d) 7 Tryz.underlying23 iu Tq (λ _=>rfl) (λ m hm cs x h1 h2=>ox m cs x h1 h2) t5 (lp 5 _ y5.1 rfl rfl);obtain⟨A6,l6,k6,e6,q6,z6,b6,p6,u6,r6⟩:=iI (λ p:(Ex×Tr)×Bool=>fc p.1.1++ [.bool p.2]) (λ p d=>ow w p.1 d) 8 Tryz.underlying24 Hk Tq (λ _=>rfl) (λ m hm cs x h1 h2=>RJ h1 h2) t6 (lp 6 _ y6.1 rfl rfl);obtain⟨A7,l7,k7,e7,q7,z7,b7,p7,u7,r7⟩:=iI (λ n:Int=> [Value.int .i64 n]) (λ n d=>n<=9223372036854775807) 1 Tryz.underlying25 si Tq (λ _=>rfl) (λ m hm cs x h1 h2=>Z7 h1) t7 (lp 7 _ y7.1 rfl rfl)
   have T0:=iJ (l0.map (·.1)) e0 (by rw[z0,length_map]) λ i a d h1 h2=>by
    obtain⟨p,hp,rfl⟩:∃p,l0[i]?=some p/\p.1=a:=by simpa [getElem?_map] using h1
    exact p0 i p d hp h2
   have T3:=iJ l3 e3 z3 p3;have T4:=iJ l4 e4 z4 p4;have T5:=iJ l5 e5 z5 p5
   have T6:=iJ (l6.map (·.1)) e6 (by rw[z6,length_map]) λ i a d h1 h2=>by
    obtain⟨p,hp,rfl⟩:∃p,l6[i]?=some p/\p.1=a:=by simpa [getElem?_map] using h1
    exact p6 i p d hp h2
   have v1':Rows.uptoBulk y1.1=s1.size+1:=by rw[v1];exact DX s1
   have v7:l7.length<=Rows.uptoBulkAll e7:=by rw[<- z7];exact Ny e7
   have eb:Rows.uptoBulk (DataW.agg (List.map (λ x=>x.1) [y0,y1,y2,y3,y4,y5,y6,y7]))=Rows.uptoBulk y0.1+(Rows.uptoBulk y1.1+(Rows.uptoBulk y2.1+(Rows.uptoBulk y3.1+(Rows.uptoBulk y4.1+(Rows.uptoBulk y5.1+(Rows.uptoBulk y6.1+(Rows.uptoBulk y7.1+0)))))))+1:=by simp only[map_cons,map_nil,Rows.uptoBulk,Rows.uptoBulkAll]
   simp at q0 q1 q2 q3 q4 q5 q6 q7;subst q0 q1 q2 q3 q4 q5 q6 q7;rw[RF] at u0;rw[Br] at u3 u4 u5;rw[Xt] at u6;unfold reachBytes at u0 u3 u4 u5 u6;have hi:(l0.map λ x=>(x.1.2,x.2)).map (·.1)=(l0.map (·.1)).map (·.2):=by simp
   have ho:(l6.map λ x=>(x.1.2,x.2)).map (·.1)=(l6.map (·.1)).map (·.2):=by simp
   refine⟨⟨l0.map λ x=>(x.1.2,x.2),s1,s2,l3.map (·.2),l4.map (·.2),l5.map (·.2),l6.map λ x=>(x.1.2,x.2),l7⟩,⟨⟨A0,l0.length,k0⟩,⟨A3,l3.length,k3⟩,⟨A4,l4.length,k4⟩,⟨A5,l5.length,k5⟩,⟨A6,l6.length,k6⟩,⟨A7,l7.length,k7⟩⟩,rfl,?_,?_,?_,?_,?_⟩
   ·refine⟨?_,⟨by simp,_,lI r3,T3.at_⟩,⟨by simp,_,lI r4,T4.at_⟩,⟨by simp,_,lI r5,T5.at_⟩,?_,rfl,?_⟩
    ·have:=Z6 (λ s:ByteArray=>Value.string s) T0 r0;rw[map_map];exact this
    ·have:=Z6 (λ s:Bool=>Value.bool s) T6 r6;rw[map_map];exact this
    ·rcases r7 with r7 |⟨b,off,h1,h2,h3⟩
     ·exact .inl r7
     ·refine .inr ⟨b,off,h1,h2,λ i x hx=>?_⟩;have:=h3 i x 0 _ hx rfl;rw[Nat.mul_one] at this;exact this
   ·refine⟨?_,T3.ok,T4.ok,T5.ok,?_,?_,?_,?_,?_,?_⟩
    ·show Tr.cO ((l0.map λ x=>(x.1.2,x.2)).map (·.1));rw[hi];exact T0.ok
    ·show Tr.cO ((l6.map λ x=>(x.1.2,x.2)).map (·.1));rw[ho];exact T6.ok
    ·show(l0.map λ x=>(x.1.2,x.2)).length<=_;exact ZgU
    ·show(l3.map (·.2)).length<=_;exact ZgU
    ·show(l4.map (·.2)).length<=_;exact ZgU
    ·show(l5.map (·.2)).length<=_;exact ZgU
    ·show(l6.map λ x=>(x.1.2,x.2)).length<=_;exact ZgU
   ·rw[uT];show _<=Rows.uptoBulk (DataW.agg (List.map (λ x=>x.1) [y0,y1,y2,y3,y4,y5,y6,y7]));rw[eb];have n0:=T0.nodes;have n3:=T3.nodes;have n4:=T4.nodes;have n5:=T5.nodes;have n6:=T6.nodes;show Tr.aQ ((l0.map λ x=>(x.1.2,x.2)).map (·.1))+(Tr.aQ (l3.map (·.2))+Tr.aQ (l4.map (·.2))+Tr.aQ (l5.map (·.2)))+Tr.aQ ((l6.map λ x=>(x.1.2,x.2)).map (·.1))<=_;rw[hi,ho];omega
   ·intro hs;replace hs:Rows.uptoBulk (DataW.agg (List.map (λ x=>x.1) [y0,y1,y2,y3,y4,y5,y6,y7]))<=1048576:=hs;rw[eb] at hs;refine⟨?_,by show s1.size<=_;omega,by show l7.length<=_;omega⟩;unfold Qy.all;show Tr.smalls ((l0.map λ x=>(x.1.2,x.2)).map (·.1)++(l3.map (·.2)++l4.map (·.2)++l5.map (·.2))++(l6.map λ x=>(x.1.2,x.2)).map (·.1));rw[hi,ho];exact ie (ie (T0.small Tq) (ie (ie (T3.small Tq) (T4.small Tq)) (T5.small Tq))) (T6.small Tq)
   ·intro x hx;obtain⟨i,hi,he⟩:=getElem_of_mem hx;have Gr:i < l7.length:=hi;exact p7 i x (e7[i]' Tq) (by rw[getElem?_eq_getElem Gr];exact congrArg some he) (getElem?_eq_getElem _)
theorem Xv {fuel:Nat} {cs:List Value} {x:DataW H×List MemPlace}(h:DataW.trod enc Tryz.prog w base spare held fuel 29 cs=some x)(hw:Light 29 x.1):
  ∃A rs c,cs=[.slice A rs.length c]/\RR w w.heap.size A rs/\rs.length<=140737488355328/\∀r∈rs,r.l.length<=140737488355328/\∀a∈r.l,a.Ok/\0<=a.k/\a.k<=255:=by
 obtain⟨A,rs,c,hcs,hP,hb,hR⟩:=ud (λ r:aW=> [.slice r.A r.l.length r.c]) (λ r=>RV w w.heap.size r.A r.l/\r.l.length<=140737488355328/\∀a∈r.l,a.Ok/\0<=a.k/\a.k<=255) 1 Tryz.underlying29 Xr Tq (λ _=>rfl)
  (λ m _ cs y hy hl=>by obtain⟨A,l,c,h1,h2⟩:=Ut hy hl;exact⟨⟨A,l,c⟩,h1,h2⟩) h hw
 rw[Xs] at hb;refine⟨A,rs,c,hcs,?_,by unfold reachBytes at hb;omega,λ r hr=>(hP r hr).2⟩;rcases hR with h0 |⟨b,off,h1,h2,h3⟩
 ·exact .inl h0
 ·refine .inr ⟨b,off,h1,h2,λ i r hr=>⟨?_,(hP r (mem_of_getElem? hr)).1⟩⟩;have:=h3 i r 0 _ hr rfl;exact ZeZ
end
section
variable {H:Type} {enc:TypeId×Value->H} {W:World} {base:Nat} {v:Value} {d:DataW H} {p:List MemPlace}
theorem Xw (ok:Value.okWide Tryz.prog W .any base 29 v)(k:DataW.Trod enc Tryz.prog W 0 (λ _=>true) true 29 v d p)(hw:Light 29 d):
  ∃A rs c,v=.slice A rs.length c/\RR W W.heap.size A rs/\rs.length<=140737488355328/\∀r∈rs,r.l.length<=140737488355328/\∀a∈r.l,a.Ok/\0<=a.k/\a.k<=255:=by obtain⟨a,len,cap,rfl⟩:=okWide_slice Tryz.underlying29 ok;obtain⟨fuel,hf⟩:=k;obtain⟨A,l,c,q,h⟩:=Xv hf hw;exact ZgK
theorem RO (ok:Value.okWide Tryz.prog W .any base 27 v)(k:DataW.Trod enc Tryz.prog W 0 (λ _=>true) true 27 v d p)(hw:Light 27 d):∃q L,v=oy q L/\QyD W q L (Rows.uptoBulk d):=by obtain⟨cs,rfl,_⟩:=okWide_struct Tryz.underlying27 ok;obtain⟨fuel,hf⟩:=k;obtain⟨q,L,h,h1⟩:=RM hf hw;refine⟨q,L,?_,h1⟩;cases cs;simp[Value.cells,fp] at h;rw[h];rfl
end
variable{α:Type}{l:List (Except Int α)}{m:List α}
theorem Nz(h:uh l=.ok m):m.length<=l.length/\∀x∈m,Except.ok x∈l:=by
 unfold uh at h;split at h
 ·cases h
 ·injection h with h;subst h;refine⟨length_filterMap_le _ _,λ x hx=>?_⟩;obtain⟨e,he,hx⟩:=List.mem_filterMap.1 hx
  cases e with
  | error e=>cases hx
  | ok y=>injection hx with hx;subst hx;exact he
theorem NA(c:α->α->Int)(k:α):∀l:List α,(iB c k l).length<=l.length+1
 | []=>by simp[iB]
 | x::l=>by
   have:=NA c k l;unfold iB;split
   ·rw[length_cons,length_cons];omega
   ·split <;> simp
theorem Hl(c:α->α->Int):∀(l s:List α),(l.foldl (λ ks k=>iB c k ks) s).length<=l.length+s.length
 | [],s=>by simp
 | x::l,s=>by have h1:=Hl c l (iB c x s);have h2:=NA c x s;rw[foldl_cons,length_cons];omega
theorem Z8(c:α->α->Int)(l:List α):(tO c l).length<=l.length:=by have:=Hl c l [];unfold tO;exact ZeZ
variable{aL:List Tr}{cols:List aX}
theorem DY{g:Bool}  :∀ {l:List (Tr×ByteArray)} {s:dz} {ys:List Tr} {hd:List aX} {s':dz},dp g aL cols l s=.ok (ys,hd,s')->hd.length=l.length
 | [],s,ys,hd,s',h=>by unfold dp at h;injection h with h;injection h with _ h1;injection h1 with h1 _;rw[<- h1];rfl
 |(t,nm)::l,s,ys,hd,s',h=>by
  unfold dp at h;split at h
  ·cases h
  split at h
  ·cases h
  rename_i hi;injection h with h;injection h with _ h1;injection h1 with h1 _;rw[<- h1,length_cons,DY hi,length_cons]
variable{ng:Nat}{aF:List Tr}{gs:List (List Val)}
theorem RP{l:List (List Val)}(h:fK ng aF l=.ok gs):gs.length<=l.length+1:=by
 unfold fK at h;by_cases he:dh ((if ng=0 then [[]] else gK ((l.map λ r=>(r.take ng,fw aF (r.drop ng))).map (·.1))).map λ k=>cM (cY (aF.map Tr.op) (l.map λ r=>(r.take ng,fw aF (r.drop ng))) k))≠0
 ·rw[if_pos he] at h;cases h
 ·rw[if_neg he] at h;injection h with h;rw[<- h,length_map];split
  ·simp
  ·have:=Z8 cI ((l.map λ r=>(r.take ng,fw aF (r.drop ng))).map (·.1));rw[length_map,length_map] at this;unfold gK;omega
variable{q:Qy}{rows left:List (List Val)}
theorem Xx{p:iX}  (h:nX q p cols rows=.ok left):left.length<=rows.length+1/\(p.aK=false->∀r∈left,r∈rows):=by
 unfold nX at h;have hk:(cE cols q.cC rows).1.length<=rows.length:=length_filter_le _ _;have hkm:∀r∈(cE cols q.cC rows).1,r∈rows:=λ r hr=>(List.mem_filter.1 hr).1
 split at h
 ·cases h
 split at h
 ·injection h with h;subst h;exact⟨by omega,λ _=>hkm⟩
 rename_i hg;split at h
 ·cases h
 rename_i l hl;have Ig:=(Nz hl).1;rw[length_map] at Ig;split at h
 ·cases h
 rename_i gs pT;split at h
 ·cases h
 injection h with h;subst h;refine⟨?_,λ e=>absurd e hg⟩;have h1:(cE p.st.aL p.having gs).1.length<=gs.length:=length_filter_le _ _;have h2:=RP pT;omega
variable{hd:List aX}{la:List (List Val)}
theorem Z9(h:lx q cols rows=.ok (hd,la))(hi:q.items.length<=40)(hc:cols.length<=40)(hr:∀r∈rows,r.length<=40):hd.length<=40/\la.length<=rows.length+1/\∀r∈la,r.length<=40:=by
 unfold lx at h;split at h
 ·cases h
 rename_i p hp;obtain⟨pg,pi,gc,vh,s1,s2,_,_,hit,_,_,phd⟩:=uI hp;have rW:=yt hit;split at h
 ·cases h
 split at h
 ·cases h
 rename_i left aqJ;obtain⟨k1,k2⟩:=Xx aqJ;split at h
 ·cases h
 rename_i ls hls;obtain⟨m1,m2⟩:=Nz hls;rw[length_map] at m1
 have hrow:∀x∈ls,x.row.length<=40:=λ x hx=>by
  obtain⟨r,hr2,he⟩:=List.mem_map.1 (m2 x hx);unfold bu at he;split at he
  ·cases he
  rename_i l hl;injection he with he;subst he;unfold Sx;dsimp only;split
  ·rename_i hnil;have hq:q.items=[]:=by rw[hnil] at rW;exact List.length_eq_zero_iff.1 (by rw[<- rW];rfl)
   exact hr r (k2 (pg.trans (pi hq)) r hr2)
  ·rw[length_take];omega
 injection h with h;injection h with h1 h2;subst h1 h2;refine⟨?_,?_,?_⟩
 ·rw[phd];split
  ·exact hc
  ·have:=DY hit;omega
 ·rw[length_map];have hs:∀ds,(kZ ds ls).length=ls.length:=λ ds=>(jI _ ls).length_eq
  split
  ·rw[hs];omega
  ·rw[length_take,hs];omega
 ·intro r hr2;obtain⟨x,hx,rfl⟩:=List.mem_map.1 hr2;refine hrow x ?_;have hs:∀ds (y:eG),y∈kZ ds ls->y∈ls:=λ ds y hy=>(jI _ ls).mem_iff.1 hy
  split at hx
  ·exact hs _ _ hx
  ·exact hs _ _ (mem_of_mem_take hx)
structure rU (w:World) (q:Qy) (L:QL) (CA:Option Addr) (cols:List aX) (RA:Option Addr) (rows:List aW):Prop where
 qy:pW w q L
 ok:q.Ok
 smalls:Tr.smalls q.all
 nodes:Tr.aQ q.all<=1100000
 bS:q.bS.size<=1048576
 ln:L.l.n<=1048576
 lim:∀n∈q.lim,n<=9223372036854775807
 env:zL w
 cr:RC w w.heap.size CA cols
 cl:cols.length<=140737488355328
 rr:RR w w.heap.size RA rows
 rn:rows.length<=140737488355328
 each:∀r∈rows,r.l.length<=140737488355328/\∀v∈r.l,v.Ok
section
variable {w w':World} {q:Qy} {L:QL} {CA:Option Addr} {cols:List aX} {RA:Option Addr} {rows:List aW}
theorem rU.later (h:rU w q L CA cols RA rows)(hb:aj w w'):rU w' q L CA cols RA rows:=
 ⟨h.qy.later hb,h.ok,h.smalls,h.nodes,h.bS,h.ln,h.lim,h.env.later hb,h.cr.later hb,h.cl,h.rr.later hb,h.rn,h.each⟩
theorem Qy.Ok.all (h:q.Ok):Tr.cO q.all:=by unfold Qy.all;exact mo.2 ⟨mo.2 ⟨h.i,mo.2 ⟨mo.2 ⟨h.w,h.g⟩,h.h⟩⟩,h.o⟩
theorem rU.great (cc rc:Nat)(h:rU w q L CA cols RA rows):ar 9 #[oy q L,.slice CA cols.length cc,.slice RA rows.length rc] w (JV q cols rows w):=by
 have hn:=h.nodes;rw[uT] at hn;have l1:=jR (q.items.map (·.1));have l2:=jR q.cC;have l3:=jR q.aL;have l4:=jR q.ft;have l5:=jR (q.ord.map (·.1));rw[length_map] at l1 l5;have hf:=h.bS;have hl:=h.ln;have i1:L.i.n=q.items.length:=by have:=h.qy.i.n;simpa using this
 have i2:L.o.n=q.ord.length:=by have:=h.qy.o.n;simpa using this
 have hc:=h.cl;have hr:=h.rn;exact Xq q L CA cc cols RA rc rows w h.qy Tq h.ok.all Tq ⟨by omega,by omega,by omega⟩ h.rr Tq Tq λ r hr=>by have:=(h.each r hr).1;omega
theorem rU.cr_ (h:rU w q L CA cols RA rows)(g:GOK q cols rows):CR w CA cols RA rows:=
 ⟨h.env,h.cr,g.cl,h.rr,g.rn,λ r hr=>⟨g.each r hr,(h.each r hr).2⟩⟩
theorem rU.few (h:rU w q L CA cols RA rows)(g:GOK q cols rows):Few q:=by have hn:=Ns h.smalls (by have:=h.nodes;omega) g.size;have:=g.g;have:=g.w;have:=g.h;have:=g.i;have:=g.o;exact⟨by omega,by omega,by omega,by omega,by omega,by omega,h.lim⟩
end
theorem wO (D:Nat->aW)(n i j:Nat)(hi:i < n)(hj:j < n):((List.range n).map (swp D i j)).Perm ((List.range n).map D):=by exact Zbq
theorem ajT{w:World}   {l:List Val}(h:aH aV 44 3 w base v l):∃A c,v=.slice A l.length c/\RV w w.heap.size A l/\l.length<=c:=by
 obtain⟨A,c,rfl,hr,hc,_⟩:=h.reads;refine⟨A,c,rfl,?_,hc⟩;rcases Nat.eq_zero_or_pos l.length with h0 | h0
 ·exact .inl (eq_nil_of_length_eq_zero h0)
 ·obtain⟨ad,rfl,hb,hcell⟩:=hr.2 h0;rcases h.2 with ⟨h,_⟩|⟨g,cap,cur,h,_⟩
  ·cases h
  ·injection h with h;injection h with h;subst h;refine .inr ⟨g,0,rfl,hb,λ i x hx=>?_⟩;have k:∀r,r < 3->∀u,(aV x)[r]?=some u->w.cell? ⟨g,0+i*3+r,none⟩=some u:=λ r hr u hu=>by have:=hcell (i*3+r) u ((Hv (size:=3) (λ _=>rfl) l i r x hx hr).trans hu);rwa [dC,<- Nat.add_assoc] at this
   exact⟨k 0 Tq _ rfl,k 1 Tq _ rfl,k 2 Tq _ rfl⟩
theorem aaa (l:List aW):l.flatMap bX=l.map aW.v:=by
 induction l with
 | nil=>rfl
 | cons x l ih=>simp only[flatMap_cons,map_cons,ih];rfl
variable{ov:Value}
theorem NC{w:World}   {cl:List aW}(h:aH bX 38 1 w base ov cl)(hm:Mine w base cl)(hne:cl≠ [])(hl:∀r∈cl,r.l.length<=1000):
  ∃g cap,ov=aI g cl.length cap/\base<=g/\SS w g cl.length w (λ i=>cl.getD i ⟨none,[],0⟩):=by
 rcases h.2 with ⟨rfl,h0⟩|⟨g,cap,cur,rfl,hb,e1,hn,hm2,hs,ht⟩
 ·exact absurd (eq_nil_of_length_eq_zero h0) hne
 ·have hsz:cl.length<=cur.size:=by rw[hs];omega
  have AU:∀i,(hi:i < cl.length)->cl.getD i ⟨none,[],0⟩=cl[i]:=λ i hi=>by simp[hi]
  refine⟨g,cap,rfl,hb,⟨⟨cur,e1,hsz,λ i hi=>?_⟩,⟨rfl,rfl,rfl,Nat.le_refl _,λ _ _ _=>rfl⟩,λ k hk=>?_⟩⟩
  ·have e:=congrArg (λ l=>l[i]?) ht;rw[aaa] at e;simp only[getElem?_take,getElem?_map] at e;rw[if_pos Tq,getElem?_eq_getElem hi] at e;show cur[i]?=some (cl.getD i ⟨none,[],0⟩).v;rw[AU i hi];simpa using e
  ·show RN w g (cl.getD k ⟨none,[],0⟩)/\(cl.getD k ⟨none,[],0⟩).l.length<=1000;rw[AU k hk];have hr:=getElem_mem hk;refine⟨?_,hl _ hr⟩;obtain⟨A,c,Kx,KK,_⟩:=ajT (hm _ hr);have hA:cl[k].A=A:=by unfold aW.v at Kx;injection Kx
   subst hA;rcases KK with KK |⟨b,off,h1,h2,h3⟩
   ·exact .inl KK
   ·refine .inr ⟨b,off,h1,h2,λ e=>?_,h3⟩;subst e
    have hq:(cl[k].v).ownBlock=some b:=by
     rcases(hm _ hr).2 with ⟨h4,_⟩|⟨g',cap',cur',h4,_⟩
     ·unfold aW.v at h4;injection h4 with h4;rw[h1] at h4;cases h4
     ·rw[h4];unfold aW.v at h4;injection h4 with h4;rw[h1] at h4;injection h4 with h4;injection h4 with h4;rw[<- h4];rfl
    obtain⟨_,_,cur',e2⟩:=(hm _ hr).lt hq;rw[e1] at e2;injection e2 with e2;injection e2 with _ e2 _;exact absurd e2 WC
theorem Hm (cl:List aW)(d:aW):(List.range cl.length).map (λ i=>cl.getD i d)=cl:=by
 apply ext_getElem
 ·simp
 ·intro i h1 h2;simp at h1;simp[h1]
variable{b off:Nat}{x:aX}
theorem zw{w:World}  (h:mL w b off x):w.cell? ⟨b,off,none⟩=some (.string x.name)/\w.cell? ⟨b,off+1,none⟩=some (ag x.t):=h
variable{B:Nat}{A:Option Addr}{k:Nat}
theorem agF{w:World}   {l:List aX}(h:RC w B A l) (hk:k < l.length):∃b off,A=some ⟨b,off,none⟩/\b < B/\mL w b (off+k*2) l[k]:=by exact Zb6
def c6V (b1 o1 b2 o2 n c c2 k:Nat)(x:aX):Nat->World->Value->Prop
 | 0,_,v=>v=.slice (some ⟨b1,o1,none⟩) n c
 | 1,_,v=>v=af k
 | 2,_,v=>v=ba b1 (o1+k*2)
 | 3,_,v=>v=.agg #[.string x.name,ag x.t]
 | 4,_,v=>v=.slice (some ⟨b2,o2,none⟩) n c2
 | 5,_,v=>v=af k
 | 6,_,v=>v=ba b2 (o2+k*2)
 | 7,_,v=>v=.agg #[.string x.name,ag x.t]
 | 8,_,v=>v=.bool false
 | _,_,_=>False
theorem Xy (b1 o1 b2 o2 n c c2 k:Nat)(x:aX):∀i w w' v,c6V b1 o1 b2 o2 n c c2 k x i w v->ai w w'->c6V b1 o1 b2 o2 n c c2 k x i w' v:=by exact Zf5
theorem JW (A:Option Addr)(c:Nat)(A':Option Addr)(c':Nat)(l:List aX)(w:World)(h:RC w w.heap.size A l)(h':RC w w.heap.size A' l)(hn:l.length<=1000000):
  ar 20 #[.slice A l.length c,.slice A' l.length c'] w λ e w'=>e=.returned (.bool true)/\aj w w':=by
 have H:=aa h;have H':=aa h';clear h h';go_enter Tryz.func20,Tryz.ntmps20;go_wp2_with fail;go_loopw [5] (λ Kx wr=>∃i:Nat,i<=l.length/\Kx=af i/\aj w wr) (λ Kx _=>l.length - (intOf Kx).toNat);case atStart=>exact Zgv
 case round=>
  obtain⟨i,hi,rfl,hb⟩:=hrel;by_cases hlt:i < l.length
  ·obtain⟨b1,o1,rfl,l1,q1⟩:=agF (H.ae.later hb) hlt;obtain⟨b2,o2,rfl,l2,q2⟩:=agF (H'.ae.later hb) hlt;have HLT:=aa hlt;have Ke:=aa l1;have AL:=aa l2;have NJ:=aa (zw q1);have Am:=aa (zw q2);generalize l[i]=x at*;clear l1 l2 q1 q2;go_upto_region 6 with fail;refine bB 9 (c6V b1 o1 b2 o2 l.length c c' i x) (Xy _ _ _ _ _ _ _ _ _) T8 T8 T8 ?_ ?_
   ·simp only[take_succ_cons,take_zero];refine⟨Zab,Zab,?_,?_,Zab,Zab,?_,?_,?_,trivial⟩
    ·intro ρ w3 hc hL hr;have h0:_=_:=hr.1;have h1:_=_:=hr.2.1;exact aq (v:=ba b1 (o1+i*2)) (w':=w3) TaZ ⟨ai.refl _,rfl⟩
    ·intro ρ w3 hc hL hr;have h0:_=_:=hr.1;have c0:=(hL.cell (p:=⟨b1,o1+i*2,none⟩) Ke.ae).trans NJ.ae.1;have c1:=(hL.cell (p:=⟨b1,o1+i*2+1,none⟩) Ke.ae).trans NJ.ae.2;exact Zg4
    ·intro ρ w3 hc hL hr;have h0:_=_:=hr.1;have h1:_=_:=hr.2.1;exact aq (v:=ba b2 (o2+i*2)) (w':=w3) TaZ ⟨ai.refl _,rfl⟩
    ·intro ρ w3 hc hL hr;have h0:_=_:=hr.1;have c0:=(hL.cell (p:=⟨b2,o2+i*2,none⟩) AL.ae).trans Am.ae.1;have c1:=(hL.cell (p:=⟨b2,o2+i*2+1,none⟩) AL.ae).trans Am.ae.2;exact Zg4
    ·intro ρ w3 hc hL hr;have h0:_=_:=hr.1;have h1:_=_:=hr.2.1;exact aq (w':=w3) Tat ⟨ai.refl _,rfl⟩
   intro W3 hL;simp only[Uab];rintro a0 - a1 - a2 - a3 - a4 - a5 - a6 - a7 - _ rfl;simp only[bD,Act.put,Uac];have ID:=ai.then hb hL;clear hL;go_wp2_with fail;go_roundw;case rel=>exact⟨i+1,hlt,by go_num,ID⟩
   case measure=>exact Za2
  ·exact Zdm
theorem zx (hd:List aX)(HA:Option Addr)(hc:Nat)(HA':Option Addr)(hc':Nat)(rs ss:List aW)(RA:Option Addr)(rc:Nat)(RA':Option Addr)(rc':Nat)(cnt:Int)(w:World)(h1:RC w w.heap.size HA hd)(h2:RC w w.heap.size HA' hd)(hn:hd.length<=1000000)(hF:RR w w.heap.size RA rs)(ih:RR w w.heap.size RA' ss)(q1:rs.map (·.l)=ss.map (·.l))(q2:rs.length<=1000)(q3:∀r∈rs,r.l.length<=1000):
  ar 13 #[.agg #[.slice HA hd.length hc,.slice RA rs.length rc,af cnt],.agg #[.slice HA' hd.length hc',.slice RA' ss.length rc',af cnt]] w λ e w'=>e=.returned (.bool true)/\aj w w':=by
 have bb:=ah w (.cells #[.slice HA hd.length hc,.slice RA rs.length rc,af cnt] 33);have HX:=aB.new w 33 #[.slice HA hd.length hc,.slice RA rs.length rc,af cnt];obtain⟨W1,hW1⟩:∃W1,W1=w.alloc (.cells #[.slice HA hd.length hc,.slice RA rs.length rc,af cnt] 33):=⟨_,rfl⟩;have s1:W1.heap.size=w.heap.size+1:=by rw[hW1,World.size_alloc]
 rw[<- hW1] at bb HX;have b2:=ah W1 (.cells #[.slice HA' hd.length hc',.slice RA' ss.length rc',af cnt] 33);have k2:=aB.new W1 33 #[.slice HA' hd.length hc',.slice RA' ss.length rc',af cnt];rw[s1] at k2;have q4:=ai.then bb b2;have HX:=HX.later b2;subst hW1;have H1:=aa (JW HA hc HA' hc' hd _ (h1.later q4) (h2.later q4) hn);have HF:=aa hF;have IH:=aa ih;have Q1:=aa q1;have HFN:=aa q2;have Q3:=aa q3;have Q4:=aa q4;have x0:=HX.cell 0;have hex:=HX.cell 1;have x2:=HX.cell 2;have y0:=k2.cell 0;have hz:=k2.cell 1;have y2:=k2.cell 2;simp only[Uaa] at x0 hex x2 y0 hz y2;have K1:=aa HX;have K2:=aa k2;clear h1 h2 hF ih q1 q2 q3 bb b2 HX k2 q4 s1;go_enter Tryz.func13,Tryz.ntmps13;go_wp2_with fail;clear x0 hex x2 y0 hz y2;refine H1.ae.mono ?_;rintro e w3 ⟨rfl,b3⟩;have hex:=(K1.ae.later b3).cell 1;have hz:=(K2.ae.later b3).cell 1;simp only[Uaa] at hex hz;have hb:=ai.then Q4.ae b3;clear b3 H1;go_wp2_with fail;refine(DR RA rc rs RA' rc' ss w3 (HF.ae.later hb) (IH.ae.later hb) Q1.ae HFN.ae Q3.ae).mono ?_;rintro e w1 ⟨rfl,b1⟩;have hb1:=ai.then hb b1;clear hex hz b1 hb;go_wp2_with fail;go_ret;exact⟨rfl,hb1⟩
variable{CA RA RB:Option Addr}{rs:List aW}
theorem CR.perm{w:World}    {rows:List aW}(h:CR w CA cols RA rows)(hr:RR w w.heap.size RB rs)(he:(rs.map (·.l)).Perm (rows.map (·.l))):CR w CA cols RB rs:=by
 refine⟨h.env,h.cr,h.cl,hr,?_,λ r hm=>?_⟩
 ·have:=he.length_eq;simp only[length_map] at this;rw[this];exact h.rn
 ·have hx:r.l∈rows.map (·.l):=he.mem_iff.1 (List.mem_map.2 ⟨r,hm,rfl⟩);exact Zg8
variable{r:Except Int (List aX×List (List Val))}
theorem iH.lit{w:World} (h:iH r B w v):∃(A1:Option Addr) (n1 c1:Nat) (A2:Option Addr) (n2 c2:Nat) (k e:Int),v=.tuple #[.agg #[.slice A1 n1 c1,.slice A2 n2 c2,af k],af e]:=by exact Ze5
variable{B':Nat}{A1 A2 A1' A2':Option Addr}{n1 c1 n2 c2 n1' c1' n2' c2':Nat}{e k' e':Int}
theorem DZ{w:World}   {k:Int}(h:iH r B w (.tuple #[.agg #[.slice A1 n1 c1,.slice A2 n2 c2,af k],af e]))(h':iH r B' w (.tuple #[.agg #[.slice A1' n1' c1',.slice A2' n2' c2',af k'],af e']))(hl:∀hd la,r=.ok (hd,la)->hd.length<=1000/\la.length<=1000/\∀r∈la,r.length<=1000):
  e'=e/\ar 13 #[.agg #[.slice A1 n1 c1,.slice A2 n2 c2,af k],.agg #[.slice A1' n1' c1',.slice A2' n2' c2',af k']] w λ e w'=>e=.returned (.bool true)/\aj w w':=by
 cases r with
 | error er=>obtain⟨_,e1,e2⟩:=h.aqG;obtain⟨_,e3,e4⟩:=h'.aqG;injection e2 with _ e2;injection e4 with _ e4;rw[e1,e3];exact⟨e4.trans e2.symm,zx [] none 0 none 0 [] [] none 0 none 0 0 w (.inl rfl) (.inl rfl) WC (.inl rfl) (.inl rfl) rfl WC (λ r hr=>by cases hr)⟩
 | ok x=>
   obtain⟨hd,la⟩:=x;obtain⟨HA,hc,OA,oc,out,e1,e2,h1,h2,h3⟩:=h.ok_;obtain⟨HA',hc',OA',oc',out',e3,e4,h4,h5,h6⟩:=h'.ok_;injection e2 with _ e2;injection e4 with _ e4;obtain⟨l1,l2,l3⟩:=hl hd la rfl;have hn:out'.length=out.length:=by have:=congrArg List.length (h6.trans h3.symm);simpa using this
   have Um:out.length=la.length:=by rw[<- h3,length_map]
   rw[e1,e3,hn];have:=zx hd HA hc HA' hc' out out' OA oc OA' oc' out.length w h1 h4 Tq h2 h5 (h3.trans h6.symm) Tq (λ r hr=>l3 _ (by rw[<- h3];exact List.mem_map.2 ⟨r,hr,rfl⟩));rw[hn] at this;exact⟨e4.trans e2.symm,this⟩
theorem RQ{rows:List aW}(g:GOK q cols rows):∀hd la,lx q cols (rows.map (·.l))=.ok (hd,la)->hd.length<=1000/\la.length<=1000/\∀r∈la,r.length<=1000:=λ hd la hr=>by
 obtain⟨h1,h2,h3⟩:=Z9 hr (by have:=g.i;omega) (by have:=g.cl;omega) (λ r hr=>by
  obtain⟨x,hx,rfl⟩:=List.mem_map.1 hr
  have:=g.each x hx
  omega)
 rw[length_map] at h2;have:=g.rn;exact⟨by omega,by omega,λ r hr=>by have:=h3 r hr;omega⟩
variable{w0:World}{n:Nat}{D:Nat->aW}
theorem SS.rr{w:World} {g:Nat} (h:SS w0 g n w D):RR w w.heap.size (some ⟨g,0,none⟩) ((List.range n).map D):=by
 refine .inr ⟨g,0,rfl,?_,λ i r hr=>?_⟩
 ·obtain⟨cs,hb,_⟩:=h.at_;exact hb.lt
 ·rw[getElem?_map] at hr;by_cases hi:i < n
  ·rw[getElem?_range hi] at hr;injection hr with hr;subst hr;rw[Nat.zero_add];exact⟨h.at_.cell i hi,h.rv i hi⟩
  ·rw[getElem?_eq_none Tau] at hr;cases hr
theorem zd3.KaO(h:p:=by have r0:_=_:=hr.1;rw[pR] at hG;have q1:=hc.func 12;refine bw (f:=12) (args:= #[.slice RA rows.length rc]) (w':=w) (by simp[go_sem,q1,r0,rgU];done) ?_;refine(ajS rc (HK.ae.later hG.low)).mono ?_;rintro e w4 ⟨v,rfl,hv,b4⟩;refine⟨_,rfl,?_⟩;show zv _ _ _ _ _;unfold zv;simp only[jJ,Nat.reduceEqDiff,if_true,if_false];exact hG.aws b4 hv):p:=h
theorem zd4.KaO(h:p:=by have r0:_=_:=hr.1;have r1:_=_:=hr.2.1;have r2:σ 3=some (ρ (.tmp 35)):=hr.2.2.1;obtain⟨A,c,rs,MY,Px,hm⟩:=hG.own pR _ r2;rw[pR] at hG;have q1:=hc.func 11;refine bw (f:=11) (args:= #[oy q L,.slice CA cols.length cc,.slice A rs.length c]) (w':=w) (by simp[go_sem,q1,r0,r1,MY,rgU];done) ?_;refine(Nu c (sX cc (HC.ae.later hG.low) iV.ae QP.ae ((HK.ae.later hG.low).same Px hm))).mono ?_;rintro e w4 ⟨v,rfl,hv,b4⟩;rw[hm] at hv;refine⟨_,rfl,?_⟩;show zv _ _ _ _ _;unfold zv;simp only[jJ,Nat.reduceEqDiff,if_true,if_false];exact hG.awt b4 (by rw[r2];rfl) (hv.down hG.low.size)):p:=h
theorem zd5.KaO(h:p:=by have r0:σ 4=some (ρ (.tmp 36)):=hr.1;rw[pR] at hG;refine aq (v:=ρ (.tmp 36)) (w':=w) (by simp[go_sem];done) ?_;show zv _ _ _ _ _;unfold zv;simp only[jJ,Nat.reduceEqDiff,if_true,if_false];exact hG.awu r0):p:=h
theorem zd6.KaO(h:p:=by have r0:σ 5=some (ρ (.tmp 31)):=hr.1;rw[pR] at hG;have h4:=hG.e5 _ r0;obtain⟨A1,n1,c1,A2,n2,c2,k,e,hv⟩:=(hG.run _ h4).tri;rw[hv] at h4;refine aq (v:=.agg #[.slice A1 n1 c1,.slice A2 n2 c2,af k]) (w':=w) (by simp[go_sem,hv];done) ?_;show zv _ _ _ _ _;unfold zv;simp only[jJ,Nat.reduceEqDiff,if_true,if_false];exact hG.awv h4):p:=h
theorem zd7.KaO(h:p:=by have r0:σ 5=some (ρ (.tmp 31)):=hr.1;rw[pR] at hG;have h4:=hG.e5 _ r0;obtain⟨A1,n1,c1,A2,n2,c2,k,e,hv⟩:=(hG.run _ h4).tri;rw[hv] at h4;refine aq (v:=e) (w':=w) (by simp[go_sem,hv];done) ?_;show zv _ _ _ _ _;unfold zv;simp only[jJ,Nat.reduceEqDiff,if_true,if_false];exact hG.aww h4):p:=h
theorem zd8.KaO(h:p:=by rw[pR] at hG;refine aq (v:=aw w.heap.size) (w':=w.alloc (.cells z33 33)) (by simp[go_sem,z33];done) ?_;show zv _ _ _ _ _;unfold zv;simp only[jJ,Nat.reduceEqDiff,if_true,if_false];exact hG.wu):p:=h
theorem zd9.KaO(h:p:=by have r0:σ 8=some (ρ (.tmp 11)):=hr.1;have r1:σ 6=some (ρ (.tmp 37)):=hr.2.1;rw[pR] at hG;obtain⟨LE,Kx,VX⟩:=hG.cell r0;obtain⟨KK,h6⟩:=hG.e6 _ r1;obtain⟨A1,n1,c1,A2,n2,c2,k,e,hv⟩:=(hG.run _ h6).tri;injection hv with hv;have hv0:=congrArg (λ a:Array Value=>a[0]?) hv;simp at hv0;rw[hv0] at h6;rw[Kx] at r0;have z0:=VX.cell 0;have z1:=VX.cell 1;have x2:=VX.cell 2;simp only[z33,Uaa] at z0 z1 x2;have f0:=VX.frozen 0;have f1:=VX.frozen 1;have f2:=VX.frozen 2;refine Xk (w':=((w.setCell ⟨LE,0,none⟩ (.slice A1 n1 c1)).setCell ⟨LE,1,none⟩ (.slice A2 n2 c2)).setCell ⟨LE,2,none⟩ (af k)) (by simp[go_sem,Kx,hv0,z0,z1,x2,f0,f1,f2];done) ?_;show zv _ _ _ _ _;unfold zv;simp only[jJ,Nat.reduceEqDiff,if_true,if_false];exact hG.awx r0 h6 _):p:=h
theorem zgd.KbA(h:p:=by
 generalize W6.drew=W7 at*;have q1:∀z:Int,decide (z < 0)=decide (z < 0):=λ _=>rfl
 clear q1;go_upto_if 86 with fail;go_cut [17] (λ v wx=>∃Lw:Nat,Lw < n/\v=af Lw/\wx=W7)
 case first=>
  by_cases tz:rk < 0
  ·have q1:decide (rk < 0)=true:=by simpa using tz
   go_wp2_with fail;go_meet;exact⟨(rk+rows.length).toNat,by have:=MM.ae;omega,by go_num,rfl⟩
  ·have q1:decide (rk < 0)=false:=by simpa using tz
   go_wp2_with fail;go_meet;exact⟨rk.toNat,by have:=MM.ae;omega,by go_num,rfl⟩
 case rest=>
  obtain⟨ix,hix,rfl,rfl⟩:=hcut;go_upto_if 92 with fail;go_cut [18] (λ v wx=>∃Lw:Nat,Lw < n/\v=af Lw/\wx=wc)
  case first=>
   by_cases tz:yr < 0
   ·have q1:decide (yr < 0)=true:=by simpa using tz
    go_wp2_with fail;go_meet;exact⟨(yr+rows.length).toNat,by have:=MM.ae;omega,by go_num,rfl⟩
   ·have q1:decide (yr < 0)=false:=by simpa using tz
    go_wp2_with fail;go_meet;exact⟨yr.toNat,by have:=MM.ae;omega,by go_num,rfl⟩
  case rest=>
   obtain⟨iy,hiy,rfl,hwc⟩:=hcut;subst hwc;clear hx1 hx2 hy1 fF hxr hyr;go_wp2_with fail;have Px:=HIN.ae.rr.later HB.ae;refine(Jj rows RA rc wc (by have:=HG.ae.rn;omega) (λ r hr=>by have:=HG.ae.each r hr;omega) Px).mono ?_;rintro e w8 ⟨v,cl,rfl,ho,G7,bU,b8⟩;have TQ:cl.length=n:=by have:=congrArg List.length bU;rw[length_map,length_map] at this;rw[this,MM.ae]
   obtain⟨g2,Yt,rfl,hg2,Eh⟩:=NC ho G7 (λ e=>Ki.ae (by rw[<- MM.ae,<- TQ,e];rfl)) (λ r hr=>by
    have hm:r.l∈cl.map (·.l):=List.mem_map.2 ⟨r,hr,rfl⟩
    rw[bU] at hm
    obtain⟨x,hx,he⟩:=List.mem_map.1 hm
    rw[<- he]
    have:=HG.ae.each x hx
    omega)
   have hpm:(((List.range n).map λ Lw=>cl.getD Lw ⟨none,[],0⟩).map (·.l)).Perm (rows.map (·.l)):=by rw[<- TQ,Hm,bU]
   rw[TQ] at Eh;rw[TQ];generalize (λ Lw=>cl.getD Lw ⟨none,[],0⟩)=D2 at*;have H2:=aa Eh;have HPM:=aa hpm;clear ho G7 bU TQ Eh hpm Px;have c1:=H2.ae.at_.cell ix hix;have c2:=H2.ae.at_.cell iy hiy;have f1:=H2.ae.at_.frozen ix;have f2:=H2.ae.at_.frozen iy;obtain⟨u,c3⟩:=H2.ae.second ix iy hix hiy (D2 iy).v;have S3:=aa (H2.ae.swap ix iy hix hiy);unfold aW.v at c3 S3;go_upto_region 16 with fail;go_big_region_o;clear c1 c2 c3 f1 f2;generalize hW3:World.drew _=W9 at S3 ⊢;clear hW3;have yJ:=((wO D2 n ix iy hix hiy).map (·.l)).trans HPM.ae;have hL:=cq b8 S3.ae.grown hg2;replace HB:=aa (Below.trans HB.ae (hL.mono HB.ae.size));have hrun:=rC.ae W9 (some ⟨g2,0,none⟩) Yt ((List.range n).map (swp D2 ix iy)) ((HK.ae.later hL).perm S3.ae.rr yJ) yJ (HC.ae.later hL);have cK:=HX.ae.later hL;have y0:=cK.cell 0;have y1:=cK.cell 1;have y2:=cK.cell 2;have y3:=cK.cell 3;have y4:=cK.cell 4;have y5:=cK.cell 5;have y6:=cK.cell 6;have x7:=cK.cell 7;simp only[fp,Uaa] at y0 y1 y2 y3 y4 y5 y6 x7;rw[length_map,length_range] at hrun;go_wp2_with fail;refine hrun.mono ?_;rintro e uv ⟨v,rfl,hv,b10⟩;obtain⟨C1,p1,r1,C2,p2,r2,kc,ec,rfl⟩:=hv.lit;have bn:=ah uv (.cells #[.slice C1 p1 r1,.slice C2 p2 r2,af kc] 33);have b1:=Below.trans hL ((ai.then b10 bn).mono hL.size);have Kc:=aa (aB.new uv 33 #[.slice C1 p1 r1,.slice C2 p2 r2,af kc]);have Vc:=aa (hv.later bn);replace HB:=aa (ai.then (ai.then HB.ae b10) bn);replace Q3:=aa (Q3.ae.later b1);replace K3:=aa (K3.ae.later b1)
   replace Mx:=aa (Mx.ae.later b1);replace Ui:=aa (Ui.ae.later b1);clear hv b10 bn b1 hL yJ hrun cK y0 y1 y2 y3 y4 y5 y6 x7 H2 HPM b8 hg2 S3 HX HC HK;go_upto_region 18 with fail;generalize uv.alloc _=W11 at*;generalize uv.heap.size=gc at*;have HRB:=aa (λ hd la h=>RQ HG.ae hd la (HR.ae.trans h));obtain⟨q1,hs1⟩:=DZ K3.ae Ui.ae HRB.ae;obtain⟨MY,_⟩:=DZ K3.ae Vc.ae HRB.ae;subst q1 MY;have a0:=Q3.ae.cell 0;have a1:=Q3.ae.cell 1;have a2:=Q3.ae.cell 2;have z0:=Mx.ae.cell 0;have z1:=Mx.ae.cell 1;have x2:=Mx.ae.cell 2;simp only[Uaa] at a0 a1 a2 z0 z1 x2;go_wp2_with fail;refine hs1.mono ?_;rintro e w12 ⟨rfl,E1⟩;replace HB:=aa (ai.then HB.ae E1);replace Q3:=aa (Q3.ae.later E1);replace Kc:=aa (Kc.ae.later E1);have hs2:=(DZ (K3.ae.later E1) (Vc.ae.later E1) HRB.ae).2;clear a0 a1 a2 z0 z1 x2 hs1;have a0:=Q3.ae.cell 0;have a1:=Q3.ae.cell 1;have a2:=Q3.ae.cell 2;have z0:=Kc.ae.cell 0;have z1:=Kc.ae.cell 1;have x2:=Kc.ae.cell 2;simp only[Uaa] at a0 a1 a2 z0 z1 x2;go_wp2_with fail;refine hs2.mono ?_;rintro e PN ⟨rfl,b13⟩;replace HB:=aa (ai.then HB.ae b13);clear a0 a1 a2 z0 z1 x2 hs2;go_wp2_with fail;refine(yz _ (HIN.ae.env.later HB.ae)).mono ?_;rintro e Ta ⟨rfl,b14⟩;go_wp2_with fail;go_ret;exact⟨rfl,ai.then HB.ae b14⟩):p:=h
theorem ziy.Kcw(h:p:=by
 clear hv b5 bn b1 hrun cK y0 y1 y2 y3 y4 y5 y6 x7 NV HSS H2 HP HPM b9 Kx;have hnz:((rows.length:Int)==0)=false:=by simpa using Ki.ae
 have kH:(0:Int)< rows.length:=by have:=Ki.ae;omega
 have hx1:=Int.tmod_lt_of_pos x kH;have hx2:=Int.lt_tmod_of_pos x kH;have hy1:=Int.tmod_lt_of_pos y kH;have fF:=Int.lt_tmod_of_pos y kH;have NW:(rows.length:Int)<=100:=by have:=HG.ae.rn;omega
 generalize hxr:Int.tmod x rows.length=rk at*;generalize hyr:Int.tmod y rows.length=yr at*;go_upto_region 10 with fail;generalize w5.alloc _=W6 at*;generalize w5.heap.size=gb at*;go_big_region_o;have b3:aj W6 W6.drew:=(Below.refl _ _).drew;open zgd in exact Zej):p:=h
theorem zeC.KaZ(h:p:=by have x7:=cK.cell 7;simp only[fp,Uaa] at y0 y1 y2 y3 y4 y5 y6 x7;rw[length_map,length_range] at hrun;clear hL;go_wp2_with fail;refine hrun.mono ?_;rintro e w5 ⟨v,rfl,hv,b5⟩;obtain⟨B1,m1,d1,B2,m2,d2,kb,eb,rfl⟩:=hv.lit;have bn:=ah w5 (.cells #[.slice B1 m1 d1,.slice B2 m2 d2,af kb] 33);have b1:=Below.trans (cq b9 H2.ae.grown Kx) ((ai.then b5 bn).mono (cq b9 H2.ae.grown Kx).size);have Mx:=aa (aB.new w5 33 #[.slice B1 m1 d1,.slice B2 m2 d2,af kb]);have Ui:=aa (hv.later bn);replace HB:=aa (ai.then (ai.then HB.ae b5) bn);open ziy in exact ZhG):p:=h
theorem zhj.KbY(h:p:=by
 subst e1 e2;clear h1 HIW Ga;have rC:=aa (λ(w':World) (A:Option Addr) (c:Nat) (rs:List aW) (TC:CR w' CA cols A rs) (hp:(rs.map (·.l)).Perm (rows.map (·.l))) (hq:pW w' q L)=>(I0 (q:=q) (cols:=cols) hp)▸Nu c (sX cc hq iV.ae QP.ae TC));generalize hR:lx q cols (rows.map (·.l))=R at*;have HR:=aa hR;clear hR;unfold oy at rC;go_wp2_with fail;have Px:=HIN.ae.rr.later HB.ae;refine(Jj rows RA rc w9a (by have:=HG.ae.rn;omega) (λ r hr=>by have:=HG.ae.each r hr;omega) Px).mono ?_;rintro e w1 ⟨v,cl,rfl,ho,G7,bU,b9⟩;have TQ:cl.length=n:=by have:=congrArg List.length bU;rw[length_map,length_map] at this;rw[this,MM.ae]
 obtain⟨LE,cap,rfl,Kx,Eh⟩:=NC ho G7 (λ e=>Ki.ae (by rw[<- MM.ae,<- TQ,e];rfl)) (λ r hr=>by
  have hm:r.l∈cl.map (·.l):=List.mem_map.2 ⟨r,hr,rfl⟩
  rw[bU] at hm
  obtain⟨x,hx,he⟩:=List.mem_map.1 hm
  rw[<- he]
  have:=HG.ae.each x hx
  omega)
 have hpm:(((List.range n).map λ Lw=>cl.getD Lw ⟨none,[],0⟩).map (·.l)).Perm (rows.map (·.l)):=by rw[<- TQ,Hm,bU]
 rw[TQ] at Eh;rw[TQ];generalize (λ Lw=>cl.getD Lw ⟨none,[],0⟩)=D at*;have HSS:=aa Eh;have HPM:=aa hpm;clear ho G7 bU TQ Eh hpm Px;have uV:n<=100:=by have:=HG.ae.rn;have:=MM.ae;omega
 have Ij:0 < n:=by have:=MM.ae;have:=Ki.ae;omega
 go_wp2_with fail;go_loopw [14] (λ iv wr=>∃(i:Nat) (E:Nat->aW),i<=n / 2/\iv=af i/\SS w1 LE n wr E/\(((List.range n).map E).map (·.l)).Perm (rows.map (·.l))) (λ iv _=>n / 2 - (intOf iv).toNat);case atStart=>exact⟨0,D,Nat.zero_le _,rfl,HSS.ae,HPM.ae⟩
 case round=>
  obtain⟨i,E,hi,rfl,hD,hp⟩:=hrel;have H2:=aa hD;have HP:=aa hp;clear hD hp;by_cases hlt:i < n / 2
  ·have c1:=H2.ae.at_.cell i Tq;have c2:=H2.ae.at_.cell (n - 1 - i) Tq;have f1:=H2.ae.at_.frozen i;have f2:=H2.ae.at_.frozen (n - 1 - i);obtain⟨u,c3⟩:=H2.ae.second i (n - 1 - i) Tq Tq (E (n - 1 - i)).v;have S3:=aa (H2.ae.swap i (n - 1 - i) Tq Tq);unfold aW.v at c3 S3;have hkm:(n:Int) - 1 - i=((n - 1 - i:Nat):Int):=by omega
   go_upto_region 8 with fail;go_big_region_o;clear c1 c2 c3 f1 f2;generalize hW3:World.drew _=W3 at S3 ⊢;clear hW3;go_wp2_with fail;go_roundw;case rel=>exact⟨i+1,_,hlt,by go_num,S3.ae,((wO E n i (n - 1 - i) Tq Tq).map _).trans HP.ae⟩
   case measure=>exact Za2
  ·have NV:=aa H2.ae.rr;have hL:=cq b9 H2.ae.grown Kx;replace HB:=aa (Below.trans HB.ae (hL.mono HB.ae.size));have hrun:=rC.ae wr (some ⟨LE,0,none⟩) cap ((List.range n).map E) ((HK.ae.later hL).perm NV.ae HP.ae) HP.ae (HC.ae.later hL);have cK:=HX.ae.later hL;open zeC in exact Zcx):p:=h
theorem ziA.Kcx(h:p:=by have My:aB w g 27 (fp q L):=(hG.low.block g HX.ae.lt).trans HX.ae;have y0:=My.cell 0;have y1:=My.cell 1;have y2:=My.cell 2;have y3:=My.cell 3;have y4:=My.cell 4;have y5:=My.cell 5;have y6:=My.cell 6;have x7:=My.cell 7;simp only[fp,Uaa] at y0 y1 y2 y3 y4 y5 y6 x7;show(execOp ρ _).run Tryz.prog w=.ok (.value (oy q L)) w;simp[go_sem,r0,y0,y1,y2,y3,y4,y5,y6,x7,oy]):p:=h
theorem ziB.Kcx(h:p:=by show(execOp ρ _).run Tryz.prog w=.ok (.value (.slice CA cols.length cc)) w;simp[go_sem,r0]):p:=h
theorem ziC.Kcx(h:p:=by show(execOp ρ _).run Tryz.prog w=.ok (.value (.slice RA rows.length rc)) w;simp[go_sem,r0]):p:=h
theorem zh8.Kck(h:p:=by
 simp only[fp,Uaa] at y0 y1 y2 y3 y4 y5 y6 x7;go_wp2_with fail;have hgr:=(HIN.ae.later HB.ae).great cc rc;unfold oy at hgr;refine hgr.mono ?_;rintro e W2 ⟨b,rfl,b2,aZ⟩;have aqL:=aa aZ;replace HB:=aa (ai.then HB.ae b2);replace HX:=aa (HX.ae.later b2);clear hgr b2 aZ y0 y1 y2 y3 y4 y5 y6 x7;cases b;case true=>exact ZhC
 have HG:=aa (aqL.ae rfl);clear aqL;by_cases hl:rows.length=0
 ·have t1:((rows.length:Int)==0)=true:=by simp[hl]
  exact ZhC
 have t1:((rows.length:Int)==0)=false:=by simpa using hl
 have t2:(rows.length==0)=false:=by simpa using hl
 have t3:decide (rows.length=0)=false:=decide_eq_false hl;go_upto_region 3 with fail;clear t1 t2 t3;have Ki:=aa hl;clear hl;obtain⟨n,hn⟩:∃n,n=rows.length:=⟨_,rfl⟩;have MM:=aa hn;clear hn;have HIW:=aa (HIN.ae.later HB.ae);have HC:=aa HIW.ae.qy;have iV:=aa HIW.ae.ok;have QP:=aa (HIW.ae.few HG.ae);have HK:=aa (HIW.ae.cr_ HG.ae);refine qR _ _ (take_append_drop 10 _).symm (rgU q L CA cc cols RA rc rows) [3,4,5,6,7,8,9] (zv W2 (rows.map (·.l)) (lx q cols (rows.map (·.l)))) (λ σ w h=>rT.later h (Below.refl _ _).drew) (rT.start _ _ _) T8 T8 T8 T8 ?_ ?_
 ·simp only[take_succ_cons,take_zero];refine⟨?_,?_,?_,?_,?_,?_,?_,?_,?_,?_,trivial⟩
  ·open ziA in exact ZhH
  ·open ziB in exact ZhH
  ·open ziC in exact ZhH
  ·open zd3 in exact Zch
  ·open zd4 in exact Zch
  ·open zd5 in exact Zch
  ·open zd6 in exact Zch
  ·open zd7 in exact Zch
  ·open zd8 in exact Zch
  ·open zd9 in exact Zch
 ·intro σ w9a hM hG;simp only[Uab];intro a0 q0 a1 Ly a2 q2 a3 q3 a4 q4 a5 q5 a6 q6 eva q7 a8 q8;unfold zv at hG;replace q4:σ 4=some a4:=q4;replace q5:σ 5=some a5:=q5;replace q6:σ 6=some a6:=q6;replace q7:σ 7=some eva:=q7;replace q8:σ 8=some a8:=q8;obtain⟨v9,h9⟩:=Option.isSome_iff_exists.1 (hM 9 WC);rw[q4,q5,q6,q7,q8,h9] at hG;obtain⟨ga,csa,ev',e4,e5,e6,e7,e8,Kx,VX,hv,My⟩:=hG.fin;have Q3:=aa VX;have K3:=aa hv;have Ba:=aa My;have Ga:=aa Kx;clear q0 Ly q2 q3 q4 q5 q6 q7 q8 hG VX hv My Kx hM h9;subst e4 e5 e6 e7 e8;simp only[bD,Act.put,Uac];clear σ v9;replace HB:=aa (ai.then HB.ae Ba.ae);replace HX:=aa (HX.ae.later Ba.ae);replace HC:=aa (HC.ae.later Ba.ae);replace HK:=aa (HK.ae.later Ba.ae);obtain⟨A1,n1,c1,A2,n2,c2,ka,ea,h1⟩:=K3.ae.lit;open zhj in exact Zfk):p:=h
theorem zfX.Kbu(h:p:=by rw[<- hg] at HX ⊢;clear hg;have HX:=aa (show aB W1 g 27 (fp q L)from HX.ae);open zh8 in exact ZgB):p:=h
theorem qorder_any (q:Qy)(L:QL)(CA:Option Addr)(cc:Nat)(cols:List aX)(RA:Option Addr)(rc:Nat)(rows:List aW)(x y:Int)(w:World)(h:rU w q L CA cols RA rows):
  ar 3 #[oy q L,.slice CA cols.length cc,.slice RA rows.length rc,af x,af y] w λ e w'=>e=.returned (.bool true)/\aj w w':=by
 have mixed:Tryz.prog.follows .mixedOrders=true:=by kernel_rfl
 have HIN:=aa h;have LT:=ah w (.cells (fp q L) 27);have k1:=aB.new w 27 (fp q L);have HB:=aa LT;have HX:=aa k1;clear h LT k1;unfold oy;unfold fp at HB HX;go_enter Tryz.func3,Tryz.ntmps3;open zfX in exact Zd7
def laidL:List (String×DataW Unit):=Rows.queryLimitRow.laid
noncomputable def laidW (os:Os):World:=World.laidAll Tryz.prog os laidL
theorem laid_os (os:Os):(laidW os).os=os:=World.laidAll_os _ _ _
theorem laid_met (os:Os)(args:Array Value):laidMet Tryz.prog laidL ((laidW os).forCall (λ _ _=>0) ⟨#[],args,[]⟩).memory:=
 laidMet_laidAll _ T8 T8
variable{W:World}
theorem env_of(h:laidMetH Tryz.prog laidL W):zL W:=by rw[MakeChecks.laidMetH_plain _ _ _ T8] at h;have h3:laidMet Tryz.prog [("internal/strconv.uint64pow10",Lib.tabData .u64 Lib.pow10Tab)] W:=h.tail.tail;exact Lib.tabIs_of_head (g:=0) (t:=261) (e:=195) (n:=20) T8 T8 Tryz.underlying261 Tryz.underlying195 T8 T8 h3
section
variable {H:Type} {enc:TypeId×Value->H} {W:World} {base:Nat} {v0 v1 v2:Value} {d0 d1 d2:DataW H} {p0 p1 p2:List MemPlace}
theorem law_in (o0:Value.okWide Tryz.prog W .any base 27 v0)(k0:DataW.Trod enc Tryz.prog W 0 (λ _=>true) true 27 v0 d0 p0)(l0:Light 27 d0)
  (o1:Value.okWide Tryz.prog W .any base 28 v1) (k1:DataW.Trod enc Tryz.prog W 0 (λ _=>true) true 28 v1 d1 p1) (l1:Light 28 d1)
  (o2:Value.okWide Tryz.prog W .any base 29 v2) (k2:DataW.Trod enc Tryz.prog W 0 (λ _=>true) true 29 v2 d2 p2) (l2:Light 29 d2)
  (hb:Rows.uptoBulk d0<=1048576) (hE:zL W):∃q L CA cc cols RA rc rows,v0=oy q L/\v1=.slice CA (List.length cols) cc/\v2=.slice RA (List.length rows) rc/\rU W q L CA cols RA rows:=by obtain⟨q,L,rfl,Q⟩:=RO o0 k0 l0;obtain⟨CA,cols,cc,rfl,c1,c2,_⟩:=Uu o1 k1 l1;obtain⟨RA,rows,rc,rfl,r1,r2,r3⟩:=Xw o2 k2 l2;obtain⟨s1,s2,s3⟩:=Q.small hb;have:=Q.nodes;exact⟨q,L,CA,cc,cols,RA,rc,rows,rfl,rfl,rfl,Q.at_,Q.ok,s1,by omega,s2,s3,Q.lim,hE,c1,c2,r1,r2,λ r hr=>⟨(r3 r hr).1,λ v hv=>((r3 r hr).2 v hv).1⟩⟩
end
end Go.Proofs.YtndgjggokjickaaGreatDoor
