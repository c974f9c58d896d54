/- Parts of the proof. -/
import Derived.Deep.Strs
import Derived.Lay
import Derived.LaidMore
import Derived.Stop.LaidErr
import Derived.HandedShaped
import Derived.Deep.DeepHandedRow
import Derived.Test.YtndgjggokjickaaGreatDoorXX11
namespace Go.Proofs.YtndgjggokjickaaGreatDoor
variable{p:Prop}
set_option maxHeartbeats 90000000
set_option maxRecDepth 100000
open Go.ChangeShapes Go.WideShapes Go.ChangeAt Go.RowKit List
set_option linter.unusedVariables false
set_option linter.unusedSimpArgs false
theorem zav.Kaa(h:p:=by rw[<- pV] at nD x2 x7 Rf Rg ⊢;clear pV;have t1:decide ((200:Int)<(L.i.n:Int))=true:=decide_eq_true WC;clear h0;exact ZbF):p:=h
theorem zbs.Kah(h:p:=by have x2:=k1.cell 2;have x7:=k1.cell 7;have Rf:=k1.cell 19;have Rg:=k1.cell 20;simp only[Uaa] at x2 x7 Rf Rg;open zav in exact Zag):p:=h
theorem WQ (q:Qy)(L:QL)(w:World)(hf:q.bT.size<=4611686018427387904)(hn:L.i.n<=4611686018427387904/\L.o.n<=4611686018427387904/\L.l.n<=4611686018427387904)(h0:200 < L.i.n):ar 21 #[.agg (Ns q L)] w (qV w):=by
 open zbs in exact Zay
theorem zaw.Kaa(h:p:=by rw[<- pV] at nD x2 x7 XJ Rf Rg ⊢;clear pV;have t1:decide ((200:Int)<(L.i.n:Int))=false:=decide_eq_false WC;have t2:decide ((200:Int)<(L.o.n:Int))=true:=decide_eq_true WC;clear h0 h1;exact ZbF):p:=h
theorem zbt.Kah(h:p:=by have x2:=k1.cell 2;have x7:=k1.cell 7;have XJ:=k1.cell 13;have Rf:=k1.cell 19;have Rg:=k1.cell 20;simp only[Uaa] at x2 x7 XJ Rf Rg;open zaw in exact Zag):p:=h
theorem WR (q:Qy)(L:QL)(w:World)(hf:q.bT.size<=4611686018427387904)(hn:L.i.n<=4611686018427387904/\L.o.n<=4611686018427387904/\L.l.n<=4611686018427387904)(h0:¬200 < L.i.n)(h1:200 < L.o.n):ar 21 #[.agg (Ns q L)] w (qV w):=by
 open zbt in exact Zay
theorem zgU.KbL(h:p:=by have t3:decide ((200:Int)<(L.l.n:Int))=true:=decide_eq_true WC;clear h0 h1 h2;exact ZbF):p:=h
theorem zax.Kaa(h:p:=by rw[<- pV] at nD x2 x7 XJ c14 Rf Rg ⊢;clear pV;open zgU in exact ZeC):p:=h
theorem zbu.Kah(h:p:=by have x2:=k1.cell 2;have x7:=k1.cell 7;have XJ:=k1.cell 13;have c14:=k1.cell 14;have Rf:=k1.cell 19;have Rg:=k1.cell 20;simp only[Uaa] at x2 x7 XJ c14 Rf Rg;open zax in exact Zag):p:=h
theorem WS (q:Qy)(L:QL)(w:World)(hf:q.bT.size<=4611686018427387904)(hn:L.i.n<=4611686018427387904/\L.o.n<=4611686018427387904/\L.l.n<=4611686018427387904)(h0:¬200 < L.i.n)(h1:¬200 < L.o.n)(h2:200 < L.l.n):ar 21 #[.agg (Ns q L)] w (qV w):=by
 open zbu in exact Zay
theorem zgV.KbL(h:p:=by have t3:decide ((200:Int)<(L.l.n:Int))=false:=decide_eq_false WC;have t4:decide ((5000:Int)<(q.bT.size:Int))=true:=decide_eq_true WC;clear h0 h1 h2 h3;exact ZbF):p:=h
theorem zay.Kaa(h:p:=by rw[<- pV] at nD z1 x2 x3 x5 x7 x8 x9 XJ x14 x16 Rf Rg x24 x27 ⊢;clear pV;open zgV in exact ZeC):p:=h
theorem zfU.Kbo(h:p:=by simp only[Uaa] at z1 x2 x3 x5 x7 x8 x9 XJ x14 x16 Rf Rg x24 x27;open zay in exact Zag):p:=h
theorem zbv.Kah(h:p:=by open zfU in exact ZdJ):p:=h
theorem WT (q:Qy)(L:QL)(w:World)(hf:q.bT.size<=4611686018427387904)(hn:L.i.n<=4611686018427387904/\L.o.n<=4611686018427387904/\L.l.n<=4611686018427387904)(h0:¬200 < L.i.n)(h1:¬200 < L.o.n)(h2:¬200 < L.l.n)(h3:5000 < q.bT.size):ar 21 #[.agg (Ns q L)] w (qV w):=by
 open zbv in exact Zay
variable{base:Nat}{v:Value}{ys:List Ex}
theorem aes{w:World}   (h:aI bH 46 7 w base v ys):∃A c,v=.slice A ys.length c/\RE w w.heap.size A ys:=by
 obtain⟨A,c,hv,hc⟩:=ej (f:=bH) (size:=7) (λ _=>rfl) h;refine⟨A,c,hv,?_⟩;rcases hc with hc |⟨g,hA,hg,hc⟩
 ·exact .inl hc
 ·refine .inr ⟨g,0,hA,hg,λ i x hx=>?_⟩;have c0:=hc i x 0 _ hx WC rfl;have c1:=hc i x 1 _ hx WC rfl;have c2:=hc i x 2 _ hx WC rfl;have c3:=hc i x 3 _ hx WC rfl;have c4:=hc i x 4 _ hx WC rfl;have c5:=hc i x 5 _ hx WC rfl;have c6:=hc i x 6 _ hx WC rfl;unfold cw;rw[Nat.zero_add];exact⟨by simpa using c0,c1,c2,c3,c4,c5,c6⟩
theorem Ha (q:Qy)(w:World)(v:Value)(ys:List Ex)(base:Nat)(ho:aI bH 46 7 w base v ys)(ht:Tr.aO w (Old w) q.all ys)(aZ:Tr.cN q.all)(hl:q.all.length<=1599289640356):ar 22 #[v] w λ e w'=>e=.returned (af (Tr.dB 0 q.all))/\aj w w':=by obtain⟨A,c,rfl,Gs⟩:=aes ho;rw[Tr.aO.length ht];exact RG A c q.all ys w hl ht Gs (Tr.Bn q.all ys w aZ ht)
theorem zie.Kci(h:p:=by exact⟨_,rfl,hb4⟩):p:=h
theorem zgW.KbL(h:p:=by
 have t3:decide ((200:Int)<(L.l.n:Int))=false:=decide_eq_false WC;have t4:decide ((5000:Int)<(q.bT.size:Int))=false:=decide_eq_false WC;clear h0 h1 h2 h3;go_upto_region 3 with fail;clear t1 t2 t3 t4 z1 x3 x5 x8 x9 XJ x14 x16 Rf x24 x27;go_wp2_with fail;go_loopw [3] (λ iv wr=>iv=af 0/\wr=W1) (λ _ _=>0);case atStart=>exact⟨rfl,rfl⟩
 case round=>
  obtain⟨rfl,rfl⟩:=hrel;go_wp2_with fail;go_loopw [4] (λ iv wr2=>iv=af 0/\wr2=wr) (λ _ _=>0);case atStart=>exact⟨rfl,rfl⟩
  case round=>
   obtain⟨rfl,rfl⟩:=hrel;clear x2;go_wp2_with fail;clear Rg;generalize wr=wz at*;go_loopw [5] (λ iv wr2=>∃k:Nat,k<=L.i.n/\iv=af k/\wr2=wz) (λ iv _=>L.i.n - (intOf iv).toNat);case atStart=>exact⟨0,Nat.zero_le _,rfl,rfl⟩
   case round=>
    obtain⟨k,hk,rfl,rfl⟩:=hrel;by_cases hlt:k < L.i.n
    ·have Y0:k < zi.length:=by rw[oz.ae];exact hlt
     obtain⟨b,off,hA,kF,cf⟩:∃b off,L.i.A=some ⟨b,off,none⟩/\b < w.heap.size/\w.cell? ⟨b,off+k*8+7,none⟩=some zi[k].2:=by
      rcases HF.ae with h |⟨b,off,h1,h2,h3⟩
      ·rw[h] at Y0;simp at Y0
      ·exact⟨b,off,h1,h2,(h3 k _ (getElem?_eq_getElem Y0)).2⟩
     obtain⟨sv2,CT⟩:=F7.ae k zi[k] (getElem?_eq_getElem Y0);rw[CT] at cf;have hc2:=(eL.ae.cell (p:=⟨b,off+k*8+7,none⟩) kF).trans cf;rw[hA] at x7;clear hA CT cf Y0;by_cases h5:100 < sv2.size
     ·have t5:decide ((100:Int)<(sv2.size:Int))=true:=decide_eq_true WC;exact ZbF
     ·have t5:decide ((100:Int)<(sv2.size:Int))=false:=decide_eq_false WC;go_wp2_with fail;go_roundw;case rel=>first | exact⟨k+1,hlt,by go_num,trivial⟩| exact⟨k+1,hlt,by go_num,rfl⟩
      case measure=>exact Za1
    ·have hsz:(Tryz.prog.info? 64).map (·.size)=some (Ns q L).size:=by show _=some 28;kernel_rfl
     go_wp2_with (first
      |(refine wpList_load_row rfl 64 (.tmp 1) rfl gs rfl 64 (Ns q L) (0,0) _ uW.ae Tryz.underlying64 rfl hsz ?_))
     refine(HEX.ae _ eL.ae).mono ?_;rintro e w3 ⟨v3,ys,rfl,o3,tt,b3⟩;have O3:=aa o3;have TT:=aa (Tr.aO.later tt b3);have oB:=aa (Below.trans eL.ae (b3.mono eL.ae.size));clear o3 tt b3 x7;open zie in exact Zgv):p:=h
theorem zaz.Kaa(h:p:=by rw[<- pV] at nD z1 x2 x3 x5 x7 x8 x9 XJ x14 x16 Rf Rg x24 x27 ⊢;clear pV;have uW:=aa (show aB W1 gs 64 (Ns q L)from nD.ae);clear nD;open zgW in exact ZeC):p:=h
theorem zfV.Kbo(h:p:=by simp only[Uaa] at z1 x2 x3 x5 x7 x8 x9 XJ x14 x16 Rf Rg x24 x27;open zaz in exact Zag):p:=h
theorem zbw.Kah(h:p:=by open zfV in exact ZdJ):p:=h
theorem WU (q:Qy)(L:QL)(w:World)(hq:pY w q L)(hlen:q.items.length+q.cD.length+q.aL.length+q.eU.length+q.ord.length<=1100000)(aZ:Tr.cN q.all)(hf:q.bT.size<=4611686018427387904)(hn:L.i.n<=4611686018427387904/\L.o.n<=4611686018427387904/\L.l.n<=4611686018427387904)(h0:¬200 < L.i.n)(h1:¬200 < L.o.n)(h2:¬200 < L.l.n)(h3:¬5000 < q.bT.size):
  ar 21 #[.agg (Ns q L)] w (qV w):=by
 have HEX:=aa (λ W (hW:aj w W)=>uC (k:=0) q L W (hq.later hW) hlen);obtain⟨hni,zi,hri,hzb,_⟩:=hq.i;have HF:=aa hri;have hzl:zi.length=L.i.n:=by have:=congrArg List.length hzb;simp at this;rw[hni];simpa using this
 have oz:=aa hzl;have F7:=aa (show∀(i:Nat) (x:Ex×Value),zi[i]?=some x->∃s:ByteArray,x.2=Value.string s from λ i x hx=>by
  have h1:=congrArg (λ l=>l[i]?) hzb
  simp only[getElem?_map,hx,Option.map_some] at h1
  cases hy:q.items[i]? with
  | none=>rw[hy] at h1;cases h1
  | some y=>
    rw[hy] at h1
    injection h1 with h1
    exact⟨_,h1⟩)
 have gh:=aa aZ;have BP:=aa (show q.all.length<=1599289640356 by unfold Qy.all;simp only[length_append,length_map];omega);clear hq hlen aZ hzb hri hni;open zbw in exact Zay
theorem Nc (q:Qy)(L:QL)(w:World)(hq:pY w q L)(hlen:q.items.length+q.cD.length+q.aL.length+q.eU.length+q.ord.length<=1100000)(aZ:Tr.cN q.all)(hf:q.bT.size<=4611686018427387904)(hn:L.i.n<=4611686018427387904/\L.o.n<=4611686018427387904/\L.l.n<=4611686018427387904):
  ar 21 #[.agg (Ns q L)] w (qV w):=by
 by_cases h0:200 < L.i.n
 ·exact WQ q L w hf hn h0
 by_cases h1:200 < L.o.n
 ·exact WR q L w hf hn h0 h1
 by_cases h2:200 < L.l.n
 ·exact WS q L w hf hn h0 h1 h2
 by_cases h3:5000 < q.bT.size
 ·exact WT q L w hf hn h0 h1 h2 h3
 exact WU q L w hq hlen aZ hf hn h0 h1 h2 h3
structure GOK (q:Qy) (cols:List aX) (rows:List aW):Prop where
 cl:cols.length<=20
 rn:rows.length<=100
 g:q.aL.length<=20
 w:q.cD.length<=20
 h:q.eU.length<=20
 i:q.items.length<=20
 o:q.ord.length<=20
 each:∀r∈rows,r.l.length<=30
 size:Tr.dB 0 q.all<=300
def JG (q:Qy)(cols:List aX)(rows:List aW)(w:World)(e:Ending)(w':World):Prop:=∃b:Bool,e=.returned (.bool b)/\aj w w'/\(b=false->GOK q cols rows)
theorem zid.Kci(h:p:=by refine⟨_,rfl,hb4,λ h=>?_⟩;obtain⟨g1,g2,g3,g4,g5,g6,g7⟩:=Xk.ae;exact⟨g1,g2,by rw[<- Xw.ae];exact g3,by rw[<- HNW.ae];exact g4,by rw[<- HNH.ae];exact g5,by rw[<- HNI.ae];exact g6,by rw[<- HNO.ae];exact g7,HEA.ae,by have:=of_decide_eq_false h;omega⟩):p:=h
theorem zgN.KbJ(h:p:=by
 simp only[Uaa] at y0 y1 c2 y3 y4 y5 y6 x7;clear hgr hL;have Xr:=aa (HR.ae.later eL.ae);cases b;case true=>exact ZbF
 by_cases h0:20 < cols.length
 ·have t0:decide ((20:Int)<(cols.length:Int))=true:=decide_eq_true WC;exact ZbF
 by_cases h1:100 < rows.length
 ·have t0:decide ((20:Int)<(cols.length:Int))=false:=decide_eq_false WC;have t1:decide ((100:Int)<(rows.length:Int))=true:=decide_eq_true WC;exact ZbF
 by_cases h2:20 < L.g.n
 ·have t0:decide ((20:Int)<(cols.length:Int))=false:=decide_eq_false WC;have t1:decide ((100:Int)<(rows.length:Int))=false:=decide_eq_false WC;have t2:decide ((20:Int)<(L.g.n:Int))=true:=decide_eq_true WC;exact ZbF
 by_cases h3:20 < L.w.n
 ·have t0:decide ((20:Int)<(cols.length:Int))=false:=decide_eq_false WC;have t1:decide ((100:Int)<(rows.length:Int))=false:=decide_eq_false WC;have t2:decide ((20:Int)<(L.g.n:Int))=false:=decide_eq_false WC;have t3:decide ((20:Int)<(L.w.n:Int))=true:=decide_eq_true WC;exact ZbF
 by_cases h4:20 < L.h.n
 ·have t0:decide ((20:Int)<(cols.length:Int))=false:=decide_eq_false WC;have t1:decide ((100:Int)<(rows.length:Int))=false:=decide_eq_false WC;have t2:decide ((20:Int)<(L.g.n:Int))=false:=decide_eq_false WC;have t3:decide ((20:Int)<(L.w.n:Int))=false:=decide_eq_false WC;have t4:decide ((20:Int)<(L.h.n:Int))=true:=decide_eq_true WC;exact ZbF
 by_cases h5:20 < L.i.n
 ·have t0:decide ((20:Int)<(cols.length:Int))=false:=decide_eq_false WC;have t1:decide ((100:Int)<(rows.length:Int))=false:=decide_eq_false WC;have t2:decide ((20:Int)<(L.g.n:Int))=false:=decide_eq_false WC;have t3:decide ((20:Int)<(L.w.n:Int))=false:=decide_eq_false WC;have t4:decide ((20:Int)<(L.h.n:Int))=false:=decide_eq_false WC;have t5:decide ((20:Int)<(L.i.n:Int))=true:=decide_eq_true WC;exact ZbF
 by_cases h6:20 < L.o.n
 ·have t0:decide ((20:Int)<(cols.length:Int))=false:=decide_eq_false WC;have t1:decide ((100:Int)<(rows.length:Int))=false:=decide_eq_false WC;have t2:decide ((20:Int)<(L.g.n:Int))=false:=decide_eq_false WC;have t3:decide ((20:Int)<(L.w.n:Int))=false:=decide_eq_false WC;have t4:decide ((20:Int)<(L.h.n:Int))=false:=decide_eq_false WC;have t5:decide ((20:Int)<(L.i.n:Int))=false:=decide_eq_false WC;have t6:decide ((20:Int)<(L.o.n:Int))=true:=decide_eq_true WC;exact ZbF
 have t0:decide ((20:Int)<(cols.length:Int))=false:=decide_eq_false WC;have t1:decide ((100:Int)<(rows.length:Int))=false:=decide_eq_false WC;have t2:decide ((20:Int)<(L.g.n:Int))=false:=decide_eq_false WC;have t3:decide ((20:Int)<(L.w.n:Int))=false:=decide_eq_false WC;have t4:decide ((20:Int)<(L.h.n:Int))=false:=decide_eq_false WC;have t5:decide ((20:Int)<(L.i.n:Int))=false:=decide_eq_false WC;have t6:decide ((20:Int)<(L.o.n:Int))=false:=decide_eq_false WC;have Xk:=aa (show cols.length<=20/\rows.length<=100/\L.g.n<=20/\L.w.n<=20/\L.h.n<=20/\L.i.n<=20/\L.o.n<=20 from⟨by omega,by omega,by omega,by omega,by omega,by omega,by omega⟩);go_upto_region 3 with fail;clear t0 t1 t2 t3 t4 t5 t6;go_wp2_with fail;go_loopw [7,8] (λ iv _ wr=>∃Kx:Nat,Kx<=rows.length/\iv=af Kx/\W2=wr/\∀j,j < Kx->∀r,rows[j]?=some r->r.l.length<=30) (λ iv _ _=>rows.length - (intOf iv).toNat);case atStart=>exact⟨0,Nat.zero_le _,rfl,rfl,λ j hj=>absurd hj WC⟩
 case round=>
  obtain⟨Kx,KK,rfl,rfl,hp⟩:=hrel;have HP:=aa hp;clear hp;have hk9:Kx<=100:=by have:=Xk.ae.2.1;omega
  by_cases hlt:Kx < rows.length
  ·obtain⟨b,off,rfl,kF,cf,vd⟩:=Xr.ae.at_ hlt;have hrw:=Qj.ae _ (getElem_mem hlt);have AZ:=aa vd;have HIK:=aa (getElem?_eq_getElem hlt);clear vd;obtain⟨r,Gs⟩:∃r,r=rows[Kx]:=⟨_,rfl⟩;rw[<- Gs] at AZ cf HIK hrw;clear Gs;by_cases h5:30 < r.l.length
   ·have t5:decide ((30:Int)<(r.l.length:Int))=true:=decide_eq_true WC;exact ZbF
   have t5:decide ((30:Int)<(r.l.length:Int))=false:=decide_eq_false WC;go_wp2_with fail;go_loopw [8] (λ jv wr2=>∃k:Nat,k<=r.l.length/\jv=af k/\W2=wr2) (λ jv _=>r.l.length - (intOf jv).toNat);case atStart=>exact⟨0,Nat.zero_le _,rfl,rfl⟩
   case round=>
    obtain⟨k,hk,rfl,rfl⟩:=hrel;by_cases hlm:k < r.l.length
    ·obtain⟨b3,aCY,hA,hb3,hva⟩:=AZ.ae.at_ hlm;unfold eh at hva;obtain⟨_,_,CT⟩:=hva;rw[hA] at cf;clear hA;obtain⟨sv,aqv⟩:∃sv,sv=r.l[k].s:=⟨_,rfl⟩;rw[<- aqv] at CT;clear aqv;by_cases h6:300 < sv.size
     ·have t6:decide ((300:Int)<(sv.size:Int))=true:=decide_eq_true WC;exact ZbF
     ·have t6:decide ((300:Int)<(sv.size:Int))=false:=decide_eq_false WC;go_wp2_with fail;go_roundw;case rel=>exact⟨k+1,hlm,by go_num,trivial⟩
      case measure=>exact Za1
    ·go_wp2_with fail;go_roundw
     case rel=>
      refine⟨Kx+1,hlt,by go_num,?_⟩
      have mh:∀j,j < Kx+1->∀r2,rows[j]?=some r2->r2.l.length<=30:=by
       intro j hj r2 hr2;rcases Nat.lt_or_ge j Kx with h | h
       ·exact HP.ae j h r2 hr2
       ·have:j=Kx:=by omega
        subst this;rw[HIK.ae] at hr2;injection hr2 with hr2;subst hr2;omega
      first
      | exact mh
      | exact⟨rfl,mh⟩
      | exact⟨trivial,mh⟩
     case measure=>exact Za1
  ·have fH:Kx=rows.length:=by omega
   have HEA:=aa (show∀r∈rows,r.l.length<=30 from λ r hr=>by
    obtain⟨i,hi,he⟩:=getElem_of_mem hr
    exact HP.ae i WC r Tax)
   clear fH;go_wp2_with fail;have hex:=HEX.ae _ eL.ae;unfold Ns at hex;refine hex.mono ?_;rintro e w3 ⟨v3,ys,rfl,o3,tt,b3⟩;have O3:=aa o3;have TT:=aa (Tr.aO.later tt b3);have oB:=aa (Below.trans eL.ae (b3.mono eL.ae.size));clear o3 tt b3 y0 y1 c2 y3 y4 y5 y6 x7 hex;open zid in exact Zgv):p:=h
theorem ze6.Ka4(h:p:=by rw[<- hg] at J5 y0 y1 c2 y3 y4 y5 y6 x7 ⊢;have HGQ:=aa hg;clear hg;go_wp2_with fail;have hgr:=xS.ae _ Qz.ae;unfold Ns at hgr;refine hgr.mono ?_;rintro e W2 ⟨b,rfl,hL⟩;have eL:=aa (Below.trans Qz.ae (hL.mono Qz.ae.size));have HO:=aa (J5.ae.later hL);have y0:=(HO.ae.cell 0);open zgN in exact Zez):p:=h
theorem WV (q:Qy)(L:QL)(CA:Option Addr)(cc:Nat)(cols:List aX)(RA:Option Addr)(rc:Nat)(rows:List aW)(w:World)(hq:pY w q L)(hlen:q.items.length+q.cD.length+q.aL.length+q.eU.length+q.ord.length<=1100000)(aZ:Tr.cN q.all)(hf:q.bT.size<=4611686018427387904)(hn:L.i.n<=4611686018427387904/\L.o.n<=4611686018427387904/\L.l.n<=4611686018427387904)(hr:RR w w.heap.size RA rows)(Qs:rows.length<=4611686018427387904)(cf:cols.length<=4611686018427387904)(kN:∀r∈rows,r.l.length<=4611686018427387904):
  ar 9 #[mR q L,.slice CA cols.length cc,.slice RA rows.length rc] w (JG q cols rows w):=by
 have HEX:=aa (λ W (hW:aj w W)=>uC (k:=0) q L W (hq.later hW) hlen);have xS:=aa (λ W (hW:aj w W)=>Nc q L W (hq.later hW) hlen aZ hf hn);have gh:=aa aZ;have BP:=aa (show q.all.length<=1599289640356 by unfold Qy.all;simp only[length_append,length_map];omega);have Xw:=aa hq.g.n;have HNW:=aa hq.w.n;have HNH:=aa hq.h.n;have HNI:=aa (show L.i.n=q.items.length by have:=hq.i.n;simpa using this);have HNO:=aa (show L.o.n=q.ord.length by have:=hq.o.n;simpa using this);have HR:=aa hr;have Qj:=aa kN;have b1:=ah w (.cells (eJ q L) 27);have cJ:=aB.new w 27 (eJ q L);have Qz:=aa b1;have J5:=aa cJ;unfold mR;have y0:=cJ.cell 0;have y1:=cJ.cell 1;have c2:=cJ.cell 2;have y3:=cJ.cell 3;have y4:=cJ.cell 4;have y5:=cJ.cell 5;have y6:=cJ.cell 6;have x7:=cJ.cell 7;unfold eJ at y0 y1 c2 y3 y4 y5 y6 x7;simp only[Uaa] at y0 y1 c2 y3 y4 y5 y6 x7;have yes:∀w2,aj w w2->JG q cols rows w (.returned (.bool true)) w2:=λ w2 h=>⟨true,rfl,h,λ h=>by cases h⟩
 have YES:=aa yes;obtain⟨uX,TU,hn3⟩:=hn;unfold eJ at Qz J5;clear hq hlen aZ b1 cJ hr kN yes;go_enter Tryz.func9,Tryz.ntmps9;open ze6 in exact ZcK
theorem WW:Tryz.prog.cellsOf 38=1:=by exact Zgx
theorem WY:Tryz.prog.bytesOf 38=24:=by exact Zgx
theorem DB:Tryz.prog.cellsOf 48=8:=by exact Zgx
theorem Hb:Tryz.prog.cellsOf 117=8:=by exact Zgx
theorem Rh:Tryz.prog.bytesOf 48=104:=by exact Zgx
theorem WZ:Tryz.prog.bytesOf 117=96:=by exact Zgx
theorem Nd:Tryz.prog.cellsOf 22=1:=by exact Zgx
theorem Ri:Tryz.prog.cellsOf 24=1:=by exact Zgx
theorem Rj:Tryz.prog.cellsOf 25=1:=by exact Zgx
theorem DD:Tryz.prog.cellsOf 4=1:=by exact Zgx
theorem Nf:Tryz.prog.cellsOf 27=8:=by exact Zgx
section
variable {H:Type} {enc:TypeId×Value->H} {w:World} {base:Nat} {spare:Nat->Bool} {held:Bool}
theorem wZ (d:DataW H):1<=Rows.uptoBulk d:=by
 cases d with
 | lit l=>cases l <;> simp[Rows.uptoBulk]
 | nil=>exact ZgC
 | ptr d=>exact ZgC
 | slice elems spare=>exact ZgC
 | agg parts=>exact ZgC
 | iface t d=>exact ZgC
 | map entries=>exact ZgC
 | held h=>exact ZgC
theorem Ng:∀l:List (DataW H),l.length<=Rows.uptoBulkAll l
 | []=>by simp[Rows.uptoBulkAll]
 | d::l=>by have:=wZ d;have:=Ng l;simp only[Rows.uptoBulkAll,length_cons];omega
theorem zfa.Ka5(h:p:=by
 obtain⟨l,Ht,hp⟩:=pick len (P:=λ i a=>(∀d,(elems.map (·.1))[i]?=some d->P a d)/\∀j,j < K->w.cell? ⟨b,off+i*K+j,none⟩=(f a)[j]?) λ i hi=>by obtain⟨a,ha,hca⟩:=nt i hi;refine⟨a,ha,λ j hj=>?_⟩;have:=hca j hj;simp only[et] at this;exact this
 subst Ht;refine⟨some ⟨b,off,none⟩,l,cap,elems.map (·.1),rfl,by rw[length_map,hlen],jS,λ i a d ha hd=>(hp i a ha).1 d hd,hb2,.inr ⟨b,off,rfl,hbl,λ i x j u hx hu=>?_⟩⟩;exact Zeo):p:=h
theorem zhL.Kb6(h:p:=by
 have jS:Rows.uptoBulkAll (elems.map (·.1))+1<=Rows.uptoBulk (DataW.slice (elems.map (·.1)) (rest.map (·.1))):=by simp only[Rows.uptoBulk];omega
 rcases Nat.eq_zero_or_pos len with h0 | h0
 ·subst h0;exact⟨some ad,[],cap,[],rfl,rfl,wZ _,by simp,by simp,.inl rfl⟩
 have nt:∀i,i < len->∃a:α,(∀d,(elems.map (·.1))[i]?=some d->P a d)/\∀j,j < K->w.cell? ((ad.add (i*K)).add j)=(f a)[j]?:=by intro i hi;have h1:=he i hi;rw[getElem?_eq_getElem WC,hc] at h1;obtain⟨cs,h2,h3⟩:=Option.bind_eq_some_iff.1 h1;obtain⟨a,rfl,ha⟩:=hel n WC cs _ h3 (Od _ (List.mem_map.2 ⟨_,getElem_mem _,rfl⟩));refine⟨a,λ d hd=>?_,(Yp h2).2⟩;rw[getElem?_map,getElem?_eq_getElem WC] at hd;injection hd with hd;rw[<- hd];exact ha
 open zfa in exact ZcM):p:=h
theorem iE {α:Type}(f:α->List Value)(P:α->DataW H->Prop)(K:Nat) {T e:TypeId}(hT:Tryz.prog.underlying T=some (.slice e))(hc:Tryz.prog.cellsOf e=K)(hK:0 < K)(hf:∀x,(f x).length=K) {fuel:Nat} {cs:List Value} {x:DataW H×List MemPlace}
  (hel:∀m,m < fuel->∀cs x,DataW.trod enc Tryz.prog w base spare held m e cs=some x->Light e x.1->∃a,cs=f a/\P a x.1) (h:DataW.trod enc Tryz.prog w base spare held fuel T cs=some x) (hw:Light T x.1):
  ∃(A:Option Addr) (l:List α) (c:Nat) (es:List (DataW H)),cs=[.slice A l.length c]/\es.length=l.length/\Rows.uptoBulkAll es+1<=Rows.uptoBulk x.1/\(∀(i:Nat) (a:α) (d:DataW H),l[i]?=some a->es[i]?=some d->P a d)/\l.length*Tryz.prog.bytesOf e<=reachBytes/\(l=[]\/∃b off,A=some ⟨b,off,none⟩/\b < w.heap.size/\∀i x j u,l[i]?=some x->(f x)[j]?=some u->w.cell? ⟨b,off+i*K+j,none⟩=some u):=by
 rcases DataW.trod_slice hT h with ⟨hcs,_⟩|⟨ad,len,cap,elems,rest,n,hn,hcs,hx,_,hl,hm,hlen,he,_,_⟩
 ·exact⟨none,[],0,[],hcs,rfl,wZ _,by simp,by simp,.inl rfl⟩
 ·open zhL in exact ZfT
theorem DF (s:ByteArray):Rows.uptoBulk (DataW.lit (H:=H) (.string s.data.toList))=s.size+1:=by exact ZgC
theorem V8 {fuel:Nat} {cs:List Value} {x:DataW H×List MemPlace}(h:DataW.trod enc Tryz.prog w base spare held fuel 44 cs=some x):∃a:Val,cs=[ag a.k,af a.n,.string a.s]/\(a.Ok/\0<=a.k/\a.k<=255)/\a.s.size<=Rows.uptoBulk x.1:=by
 obtain⟨y0,y1,y2,n,hx,hl,t0,t1,t2⟩:=Deep.trod_struct3 Tryz.underlying44 h;rw[mN] at hl
 match cs,hl with
 | [c0,c1,c2],_=>simp only[gw,vG,sq,drop_succ_cons,drop_zero,take_succ_cons,take_zero] at t0 t1 t2;obtain⟨n0,q0,_,f0⟩:=DataW.trod_int Tryz.underlying5 t0;obtain⟨n1,q1,_,f1⟩:=DataW.trod_int Tryz.underlying2 t1;obtain⟨s,q2,z2,f2⟩:=DataW.trod_string Tryz.underlying9 t2;simp at q0 q1 q2;subst q0 q1 q2;refine⟨⟨n0,n1,s⟩,rfl,⟨Hs f1,RF f0⟩,?_⟩;subst hx;have e:=congrArg (λ y=>Rows.uptoBulk y.1) z2;simp only[DF] at e;simp only[Rows.uptoBulk,Rows.uptoBulkAll];show s.size<=_;omega
structure ot (w:World) (p:Ex×Tr) (d:DataW H):Prop where
 at_:p.2.at_ w (Old w) p.1
 ok:p.2.ok
 nodes:p.2.nodes<=Rows.uptoBulk d
 small:Rows.uptoBulk d<=1048576->p.2.small
structure V9 (w:World) (l:List (Ex×Tr)) (n:Nat):Prop where
 at_:Tr.aO w (Old w) (l.map (·.2)) (l.map (·.1))
 ok:Tr.cN (l.map (·.2))
 nodes:Tr.aQ (l.map (·.2))<=n
 small:n<=1048576->Tr.smalls (l.map (·.2))
theorem iF:∀(l:List (Ex×Tr)) (es:List (DataW H)),es.length=l.length->(∀(i:Nat) (a:Ex×Tr) (d:DataW H),l[i]?=some a->es[i]?=some d->ot w a d)->V9 w l (Rows.uptoBulkAll es)
 | [],es,_,_=>by
   refine⟨?_,?_,?_,λ _=>?_⟩
   ·simp[Tr.aO]
   ·simp[Tr.cN]
   ·simp[Tr.aQ]
   ·simp[Tr.smalls]
 | p::l,[],h,_=>by simp at h
 | p::l,d::es,h,hp=>by
   have h0:=hp 0 p d rfl rfl;have hr:=iF l es Tal λ i a d h1 h2=>hp (i+1) a d Ta4 (by simpa using h2)
   simp only[Rows.uptoBulkAll];refine⟨?_,?_,?_,λ hn=>?_⟩
   ·simp only[map_cons];unfold Tr.aO;exact⟨_,_,rfl,h0.at_,hr.at_⟩
   ·simp only[map_cons];unfold Tr.cN;exact⟨h0.ok,hr.ok⟩
   ·simp only[map_cons];unfold Tr.aQ;have:=h0.nodes;have:=hr.nodes;omega
   ·simp only[map_cons];unfold Tr.smalls;exact⟨h0.small WC,hr.small WC⟩
theorem lI {A:Option Addr} {l:List (Ex×Tr)}(cf:l=[]\/∃b off,A=some ⟨b,off,none⟩/\b < w.heap.size/\∀i x j u,l[i]?=some x->(fg x.1)[j]?=some u->w.cell? ⟨b,off+i*7+j,none⟩=some u):Yd w (Old w) A (l.map (·.1)):=by
 rcases cf with cf |⟨b,off,rfl,hb,cf⟩
 ·exact .inl (by simp[cf])
 ·refine .inr ⟨b,off,rfl,hb,λ i y hy=>?_⟩;obtain⟨p,hp,rfl⟩:∃p,l[i]?=some p/\p.1=y:=by simpa [getElem?_map] using hy
  have k:=λ j u hu=>cf i p j u hp hu
  exact⟨k 0 _ rfl,k 1 _ rfl,k 2 _ rfl,k 3 _ rfl,k 4 _ rfl,k 5 _ rfl,k 6 _ rfl⟩
theorem ou:∀(fuel:Nat) (cs:List Value) (x:DataW H×List MemPlace),DataW.trod enc Tryz.prog w base spare held fuel 46 cs=some x->Light 46 x.1->∃p:Ex×Tr,cs=fg p.1/\ot w p x.1:=by
 intro fuel
 induction fuel using Nat.strongRecOn with
 | _ fuel ih=>
   intro cs x h hw;obtain⟨xs,n,hn,hx,hl,hlen,hf⟩:=DataW.trod_struct Tryz.underlying46 h;rw[iu] at hl;subst hx
   match xs,hlen with
   | [y0,y1,y2,y3,y4],_=>
   match cs,hl with
   | [c0,c1,c2,c3,c4,c5,c6],_=>
     have t0:DataW.trod enc Tryz.prog w base spare held n 5 (([c0,c1,c2,c3,c4,c5,c6].drop 0).take (Tryz.prog.cellsOf 5))=some y0:=(hf 0 _ rfl);have t1:DataW.trod enc Tryz.prog w base spare held n 44 (([c0,c1,c2,c3,c4,c5,c6].drop 1).take (Tryz.prog.cellsOf 44))=some y1:=(hf 1 _ rfl);have t2:DataW.trod enc Tryz.prog w base spare held n 9 (([c0,c1,c2,c3,c4,c5,c6].drop 4).take (Tryz.prog.cellsOf 9))=some y2:=(hf 2 _ rfl);have t3:DataW.trod enc Tryz.prog w base spare held n 2 (([c0,c1,c2,c3,c4,c5,c6].drop 5).take (Tryz.prog.cellsOf 2))=some y3:=(hf 3 _ rfl);have t4:DataW.trod enc Tryz.prog w base spare held n 23 (([c0,c1,c2,c3,c4,c5,c6].drop 6).take (Tryz.prog.cellsOf 23))=some y4:=(hf 4 _ rfl);rw[vG] at t0;rw[mN] at t1;rw[gw] at t2;rw[sq] at t3;rw[yF] at t4;simp only[drop_succ_cons,drop_zero,take_succ_cons,take_zero] at t0 t1 t2 t3 t4;obtain⟨n0,q0,_,f0⟩:=DataW.trod_int Tryz.underlying5 t0;obtain⟨a,qa,⟨ha,BO,hk2⟩,has⟩:=V8 t1;obtain⟨s,q2,z2,f2⟩:=DataW.trod_string Tryz.underlying9 t2;obtain⟨n3,q3,_,f3⟩:=DataW.trod_int Tryz.underlying2 t3;have hl4:Light 23 y4.1:=oP (j:=4) (d:=y4.1) Tryz.underlying46 hw rfl rfl;obtain⟨A,l,c,es,q4,hel,jS,hP,hby,cf⟩:=iE (λ p:Ex×Tr=>fg p.1) (λ p d=>ot w p d) 7 Tryz.underlying23 iu WC (λ _=>rfl) (λ m hm cs x h1 h2=>ih m WC cs x h1 h2) t4 hl4;have hT:=iF l es hel hP;simp at q0 qa q2 q3 q4;obtain⟨rfl,rfl,rfl⟩:=qa;subst q0 q2 q3 q4;rw[Bj] at hby;have Ht:l.length<=1599289640356:=by unfold reachBytes at hby;omega
     have e2:Rows.uptoBulk y2.1=s.size+1:=by rw[z2];exact DF s
     have eb:Rows.uptoBulk (DataW.agg (List.map (λ x=>x.1) [y0,y1,y2,y3,y4]))=Rows.uptoBulk y0.1+(Rows.uptoBulk y1.1+(Rows.uptoBulk y2.1+(Rows.uptoBulk y3.1+(Rows.uptoBulk y4.1+0))))+1:=by simp only[map_cons,map_nil,Rows.uptoBulk,Rows.uptoBulkAll]
     have hb0:=wZ y0.1;refine⟨(⟨n0,a,s,n3,A,l.length,c⟩,.mk n0 a s n3 (l.map (·.2))),rfl,?_,?_,?_,?_⟩
     ·dsimp only;unfold Tr.at_;exact⟨rfl,rfl,rfl,rfl,by simp,l.map (·.1),lI cf,hT.at_⟩
     ·dsimp only;unfold Tr.ok;exact⟨ha,by simpa using Ht,RF f0,Hs f3,⟨BO,hk2⟩,hT.ok⟩
     ·show Tr.nodes _<=Rows.uptoBulk (DataW.agg (List.map (λ x=>x.1) [y0,y1,y2,y3,y4]));rw[eb];unfold Tr.nodes;have:=hT.nodes;omega
     ·intro hsm;have hsm:Rows.uptoBulk (DataW.agg (List.map (λ x=>x.1) [y0,y1,y2,y3,y4]))<=1048576:=hsm;rw[eb] at hsm;unfold Tr.small;exact⟨by omega,by omega,hT.small WC⟩
end
section
variable {H:Type} {enc:TypeId×Value->H} {w:World} {base:Nat} {spare:Nat->Bool} {held:Bool}
theorem ot.more {p:Ex×Tr} {d d':DataW H}(h:ot w p d)(hd:Rows.uptoBulk d<=Rows.uptoBulk d'):ot w p d':=⟨h.at_,h.ok,Nat.le_trans h.nodes hd,λ hs=>h.small WC⟩
theorem Xa {fuel:Nat} {cs:List Value} {x:DataW H×List MemPlace}(h:DataW.trod enc Tryz.prog w base spare held fuel 48 cs=some x)(hw:Light 48 x.1):∃a:(Ex×Tr)×ByteArray,cs=fg a.1.1++ [.string a.2]/\ot w a.1 x.1:=by
 obtain⟨y0,y1,n,hx,hl,t0,t1⟩:=trod_struct2 Tryz.underlying48 h;rw[DB] at hl
 match cs,hl with
 | [c0,c1,c2,c3,c4,c5,c6,c7],_=>rw[iu] at t0;rw[gw] at t1;simp only[drop_succ_cons,drop_zero,take_succ_cons,take_zero] at t0 t1;subst hx;obtain⟨p,q0,hp⟩:=ou n _ _ t0 (oP (j:=0) Tryz.underlying48 hw rfl rfl);obtain⟨s,q1,_,_⟩:=DataW.trod_string Tryz.underlying9 t1;exact ZdV
theorem Rk {fuel:Nat} {cs:List Value} {x:DataW H×List MemPlace}(h:DataW.trod enc Tryz.prog w base spare held fuel 117 cs=some x)(hw:Light 117 x.1):∃a:(Ex×Tr)×Bool,cs=fg a.1.1++ [.bool a.2]/\ot w a.1 x.1:=by
 obtain⟨y0,y1,n,hx,hl,t0,t1⟩:=trod_struct2 Tryz.underlying117 h;rw[Hb] at hl
 match cs,hl with
 | [c0,c1,c2,c3,c4,c5,c6,c7],_=>rw[iu] at t0;rw[DD] at t1;simp only[drop_succ_cons,drop_zero,take_succ_cons,take_zero] at t0 t1;subst hx;obtain⟨p,q0,hp⟩:=ou n _ _ t0 (oP (j:=0) Tryz.underlying117 hw rfl rfl);obtain⟨s,q1,_⟩:=DataW.trod_bool Tryz.underlying4 t1;exact ZdV
theorem X0 {γ:Type}(g:γ->Value) {A:Option Addr} {l:List ((Ex×Tr)×γ)} {n:Nat}(hT:V9 w (l.map (·.1)) n)
  (cf:l=[]\/∃b off,A=some ⟨b,off,none⟩/\b < w.heap.size/\∀i x j u,l[i]?=some x->(fg x.1.1++ [g x.2])[j]?=some u->w.cell? ⟨b,off+i*8+j,none⟩=some u):eO w (l.map λ x=>(x.1.2,g x.2)) A l.length:=by
 refine⟨by simp,l.map λ x=>(x.1.1,g x.2),?_,by simp,?_⟩
 ·rcases cf with rfl |⟨b,off,rfl,hb,hc⟩
  ·exact .inl rfl
  ·refine .inr ⟨b,off,rfl,hb,λ i y hy=>?_⟩;obtain⟨p,hp,rfl⟩:∃p,l[i]?=some p/\(p.1.1,g p.2)=y:=by simpa [getElem?_map] using hy
   have k:=λ j u hu=>hc i p j u hp hu
   exact⟨⟨k 0 _ rfl,k 1 _ rfl,k 2 _ rfl,k 3 _ rfl,k 4 _ rfl,k 5 _ rfl,k 6 _ rfl⟩,k 7 _ rfl⟩
 ·have:=hT.at_;simp only[map_map] at this ⊢;exact this
theorem jN:∀ts:List Tr,ts.length<=Tr.aQ ts
 | []=>Nat.zero_le _
 | t::ts=>by have:=jN ts;unfold Tr.aQ;cases t;unfold Tr.nodes;rw[length_cons];omega
theorem X5 {fuel:Nat} {cs:List Value} {x:DataW H×List MemPlace}(h:DataW.trod enc Tryz.prog w base spare held fuel 2 cs=some x):∃a:Int,cs=[af a]/\a<=9223372036854775807:=by obtain⟨n,q,_,f⟩:=DataW.trod_int Tryz.underlying2 h;exact⟨n,q,(Hs f).2⟩
structure QyD (w:World) (q:Qy) (L:QL) (n:Nat):Prop where
 at_:pY w q L
 ok:q.Ok
 nodes:Tr.aQ q.all<=n
 small:n<=1048576->Tr.smalls q.all/\q.bT.size<=1048576/\L.l.n<=1048576
 lim:∀x∈q.lim,x<=9223372036854775807
theorem Rl {fuel:Nat} {cs:List Value} {x:DataW H×List MemPlace}(h:DataW.trod enc Tryz.prog w base spare held fuel 27 cs=some x)(hw:Light 27 x.1):∃q L,cs=(eJ q L).toList/\QyD w q L (Rows.uptoBulk x.1):=by
 obtain⟨xs,n,hn,hx,hl,hlen,hf⟩:=DataW.trod_struct Tryz.underlying27 h;rw[Nf] at hl;subst hx
 match xs,hlen with
 | [y0,y1,y2,y3,y4,y5,y6,y7],_=>
 match cs,hl with
 | [c0,c1,c2,c3,c4,c5,c6,c7],_=>
   have t0:DataW.trod enc Tryz.prog w base spare held n 22 (([c0,c1,c2,c3,c4,c5,c6,c7].drop 0).take (Tryz.prog.cellsOf 22))=some y0:=(hf 0 _ rfl);have t1:DataW.trod enc Tryz.prog w base spare held n 9 (([c0,c1,c2,c3,c4,c5,c6,c7].drop 1).take (Tryz.prog.cellsOf 9))=some y1:=(hf 1 _ rfl);have t2:DataW.trod enc Tryz.prog w base spare held n 4 (([c0,c1,c2,c3,c4,c5,c6,c7].drop 2).take (Tryz.prog.cellsOf 4))=some y2:=(hf 2 _ rfl);have t3:DataW.trod enc Tryz.prog w base spare held n 23 (([c0,c1,c2,c3,c4,c5,c6,c7].drop 3).take (Tryz.prog.cellsOf 23))=some y3:=(hf 3 _ rfl);have t4:DataW.trod enc Tryz.prog w base spare held n 23 (([c0,c1,c2,c3,c4,c5,c6,c7].drop 4).take (Tryz.prog.cellsOf 23))=some y4:=(hf 4 _ rfl);have t5:DataW.trod enc Tryz.prog w base spare held n 23 (([c0,c1,c2,c3,c4,c5,c6,c7].drop 5).take (Tryz.prog.cellsOf 23))=some y5:=(hf 5 _ rfl);have t6:DataW.trod enc Tryz.prog w base spare held n 24 (([c0,c1,c2,c3,c4,c5,c6,c7].drop 6).take (Tryz.prog.cellsOf 24))=some y6:=(hf 6 _ rfl);have t7:DataW.trod enc Tryz.prog w base spare held n 25 (([c0,c1,c2,c3,c4,c5,c6,c7].drop 7).take (Tryz.prog.cellsOf 25))=some y7:=(hf 7 _ rfl);rw[Nd] at t0;rw[gw] at t1;rw[DD] at t2;rw[yF] at t3 t4 t5;rw[Ri] at t6;rw[Rj] at t7;simp only[drop_succ_cons,drop_zero,take_succ_cons,take_zero] at t0 t1 t2 t3 t4 t5 t6 t7;have lp:=λ(j:Nat) (f:Field) (d:DataW H)=>oP (j:=j) (f:=f) (d:=d) Tryz.underlying27 hw
   obtain⟨A0,l0,k0,e0,q0,z0,b0,p0,u0,r0⟩:=iE (λ p:(Ex×Tr)×ByteArray=>fg p.1.1++ [.string p.2]) (λ p d=>ot w p.1 d) 8 Tryz.underlying22 DB WC (λ _=>rfl) (λ m hm cs x h1 h2=>Xa h1 h2) t0 (lp 0 _ y0.1 rfl rfl);obtain⟨s1,q1,v1,_⟩:=DataW.trod_string Tryz.underlying9 t1;obtain⟨s2,q2,_⟩:=DataW.trod_bool Tryz.underlying4 t2;obtain⟨A3,l3,k3,e3,q3,z3,b3,p3,u3,r3⟩:=iE (λ p:Ex×Tr=>fg p.1) (λ p d=>ot w p d) 7 Tryz.underlying23 iu WC (λ _=>rfl) (λ m hm cs x h1 h2=>ou m cs x h1 h2) t3 (lp 3 _ y3.1 rfl rfl);obtain⟨A4,l4,k4,e4,q4,z4,b4,p4,u4,r4⟩:=iE (λ p:Ex×Tr=>fg p.1) (λ p d=>ot w p d) 7 Tryz.underlying23 iu WC (λ _=>rfl) (λ m hm cs x h1 h2=>ou m cs x h1 h2) t4 (lp 4 _ y4.1 rfl rfl);obtain⟨A5,l5,k5,e5,q5,z5,b5,p5,u5,r5⟩:=iE (λ p:Ex×Tr=>fg p.1) (λ p d=>ot w p d) 7 Tryz.underlying23 iu WC (λ _=>rfl) (λ m hm cs x h1 h2=>ou m cs x h1 h2) t5 (lp 5 _ y5.1 rfl rfl);obtain⟨A6,l6,k6,e6,q6,z6,b6,p6,u6,r6⟩:=iE (λ p:(Ex×Tr)×Bool=>fg p.1.1++ [.bool p.2]) (λ p d=>ot w p.1 d) 8 Tryz.underlying24 Hb WC (λ _=>rfl) (λ m hm cs x h1 h2=>Rk h1 h2) t6 (lp 6 _ y6.1 rfl rfl);obtain⟨A7,l7,k7,e7,q7,z7,b7,p7,u7,r7⟩:=iE (λ n:Int=> [Value.int .i64 n]) (λ n d=>n<=9223372036854775807) 1 Tryz.underlying25 sq WC (λ _=>rfl) (λ m hm cs x h1 h2=>X5 h1) t7 (lp 7 _ y7.1 rfl rfl)
   have T0:=iF (l0.map (·.1)) e0 (by rw[z0,length_map]) λ i a d h1 h2=>by
    obtain⟨p,hp,rfl⟩:∃p,l0[i]?=some p/\p.1=a:=by simpa [getElem?_map] using h1
    exact p0 i p d hp h2
   have T3:=iF l3 e3 z3 p3;have T4:=iF l4 e4 z4 p4;have T5:=iF l5 e5 z5 p5
   have T6:=iF (l6.map (·.1)) e6 (by rw[z6,length_map]) λ i a d h1 h2=>by
    obtain⟨p,hp,rfl⟩:∃p,l6[i]?=some p/\p.1=a:=by simpa [getElem?_map] using h1
    exact p6 i p d hp h2
   have v1':Rows.uptoBulk y1.1=s1.size+1:=by rw[v1];exact DF s1
   have v7:l7.length<=Rows.uptoBulkAll e7:=by rw[<- z7];exact Ng e7
   have eb:Rows.uptoBulk (DataW.agg (List.map (λ x=>x.1) [y0,y1,y2,y3,y4,y5,y6,y7]))=Rows.uptoBulk y0.1+(Rows.uptoBulk y1.1+(Rows.uptoBulk y2.1+(Rows.uptoBulk y3.1+(Rows.uptoBulk y4.1+(Rows.uptoBulk y5.1+(Rows.uptoBulk y6.1+(Rows.uptoBulk y7.1+0)))))))+1:=by simp only[map_cons,map_nil,Rows.uptoBulk,Rows.uptoBulkAll]
   simp at q0 q1 q2 q3 q4 q5 q6 q7;subst q0 q1 q2 q3 q4 q5 q6 q7;rw[Rh] at u0;rw[Bj] at u3 u4 u5;rw[WZ] at u6;unfold reachBytes at u0 u3 u4 u5 u6;have hi:(l0.map λ x=>(x.1.2,x.2)).map (·.1)=(l0.map (·.1)).map (·.2):=by simp
   have ho:(l6.map λ x=>(x.1.2,x.2)).map (·.1)=(l6.map (·.1)).map (·.2):=by simp
   refine⟨⟨l0.map λ x=>(x.1.2,x.2),s1,s2,l3.map (·.2),l4.map (·.2),l5.map (·.2),l6.map λ x=>(x.1.2,x.2),l7⟩,⟨⟨A0,l0.length,k0⟩,⟨A3,l3.length,k3⟩,⟨A4,l4.length,k4⟩,⟨A5,l5.length,k5⟩,⟨A6,l6.length,k6⟩,⟨A7,l7.length,k7⟩⟩,rfl,?_,?_,?_,?_,?_⟩
   ·refine⟨?_,⟨by simp,_,lI r3,T3.at_⟩,⟨by simp,_,lI r4,T4.at_⟩,⟨by simp,_,lI r5,T5.at_⟩,?_,rfl,?_⟩
    ·have:=X0 (λ s:ByteArray=>Value.string s) T0 r0;rw[map_map];exact this
    ·have:=X0 (λ s:Bool=>Value.bool s) T6 r6;rw[map_map];exact this
    ·rcases r7 with r7 |⟨b,off,h1,h2,h3⟩
     ·exact .inl r7
     ·refine .inr ⟨b,off,h1,h2,λ i x hx=>?_⟩;have:=h3 i x 0 _ hx rfl;rw[Nat.mul_one] at this;exact this
   ·refine⟨?_,T3.ok,T4.ok,T5.ok,?_,?_,?_,?_,?_,?_⟩
    ·show Tr.cN ((l0.map λ x=>(x.1.2,x.2)).map (·.1));rw[hi];exact T0.ok
    ·show Tr.cN ((l6.map λ x=>(x.1.2,x.2)).map (·.1));rw[ho];exact T6.ok
    ·show(l0.map λ x=>(x.1.2,x.2)).length<=_;exact ZgW
    ·show(l3.map (·.2)).length<=_;exact ZgW
    ·show(l4.map (·.2)).length<=_;exact ZgW
    ·show(l5.map (·.2)).length<=_;exact ZgW
    ·show(l6.map λ x=>(x.1.2,x.2)).length<=_;exact ZgW
   ·rw[uU];show _<=Rows.uptoBulk (DataW.agg (List.map (λ x=>x.1) [y0,y1,y2,y3,y4,y5,y6,y7]));rw[eb];have n0:=T0.nodes;have n3:=T3.nodes;have n4:=T4.nodes;have n5:=T5.nodes;have n6:=T6.nodes;show Tr.aQ ((l0.map λ x=>(x.1.2,x.2)).map (·.1))+(Tr.aQ (l3.map (·.2))+Tr.aQ (l4.map (·.2))+Tr.aQ (l5.map (·.2)))+Tr.aQ ((l6.map λ x=>(x.1.2,x.2)).map (·.1))<=_;rw[hi,ho];omega
   ·intro hs;replace hs:Rows.uptoBulk (DataW.agg (List.map (λ x=>x.1) [y0,y1,y2,y3,y4,y5,y6,y7]))<=1048576:=hs;rw[eb] at hs;refine⟨?_,by show s1.size<=_;omega,by show l7.length<=_;omega⟩;unfold Qy.all;show Tr.smalls ((l0.map λ x=>(x.1.2,x.2)).map (·.1)++(l3.map (·.2)++l4.map (·.2)++l5.map (·.2))++(l6.map λ x=>(x.1.2,x.2)).map (·.1));rw[hi,ho];exact ie (ie (T0.small WC) (ie (ie (T3.small WC) (T4.small WC)) (T5.small WC))) (T6.small WC)
   ·intro x hx;obtain⟨i,hi,he⟩:=getElem_of_mem hx;have Gg:i < l7.length:=hi;exact p7 i x (e7[i]' WC) (by rw[getElem?_eq_getElem Gg];exact congrArg some he) (getElem?_eq_getElem _)
theorem Xb {fuel:Nat} {cs:List Value} {x:DataW H×List MemPlace}(h:DataW.trod enc Tryz.prog w base spare held fuel 29 cs=some x)(hw:Light 29 x.1):
  ∃A rs c,cs=[.slice A rs.length c]/\RR w w.heap.size A rs/\rs.length<=140737488355328/\∀r∈rs,r.l.length<=140737488355328/\∀a∈r.l,a.Ok/\0<=a.k/\a.k<=255:=by
 obtain⟨A,rs,c,hcs,hP,hb,hR⟩:=ud (λ r:aW=> [.slice r.A r.l.length r.c]) (λ r=>RV w w.heap.size r.A r.l/\r.l.length<=140737488355328/\∀a∈r.l,a.Ok/\0<=a.k/\a.k<=255) 1 Tryz.underlying29 WW WC (λ _=>rfl)
  (λ m _ cs y hy hl=>by obtain⟨A,l,c,h1,h2⟩:=Uc hy hl;exact⟨⟨A,l,c⟩,h1,h2⟩) h hw
 rw[WY] at hb;refine⟨A,rs,c,hcs,?_,by unfold reachBytes at hb;omega,λ r hr=>(hP r hr).2⟩;rcases hR with h0 |⟨b,off,h1,h2,h3⟩
 ·exact .inl h0
 ·refine .inr ⟨b,off,h1,h2,λ i r hr=>⟨?_,(hP r (mem_of_getElem? hr)).1⟩⟩;have:=h3 i r 0 _ hr rfl;exact Ze5
end
section
variable {H:Type} {enc:TypeId×Value->H} {W:World} {base:Nat} {v:Value} {d:DataW H} {p:List MemPlace}
theorem Xc (ok:Value.okWide Tryz.prog W .any base 29 v)(k:DataW.Trod enc Tryz.prog W 0 (λ _=>true) true 29 v d p)(hw:Light 29 d):
  ∃A rs c,v=.slice A rs.length c/\RR W W.heap.size A rs/\rs.length<=140737488355328/\∀r∈rs,r.l.length<=140737488355328/\∀a∈r.l,a.Ok/\0<=a.k/\a.k<=255:=by obtain⟨a,len,cap,rfl⟩:=okWide_slice Tryz.underlying29 ok;obtain⟨fuel,hf⟩:=k;obtain⟨A,l,c,q,h⟩:=Xb hf hw;exact ZgM
theorem Rm (ok:Value.okWide Tryz.prog W .any base 27 v)(k:DataW.Trod enc Tryz.prog W 0 (λ _=>true) true 27 v d p)(hw:Light 27 d):∃q L,v=mR q L/\QyD W q L (Rows.uptoBulk d):=by obtain⟨cs,rfl,_⟩:=okWide_struct Tryz.underlying27 ok;obtain⟨fuel,hf⟩:=k;obtain⟨q,L,h,h1⟩:=Rl hf hw;refine⟨q,L,?_,h1⟩;cases cs;simp[Value.cells,eJ] at h;rw[h];rfl
end
variable{α:Type}{l:List (Except Int α)}{m:List α}
theorem Nh(h:Ee l=.ok m):m.length<=l.length/\∀x∈m,Except.ok x∈l:=by
 unfold Ee at h;split at h
 ·cases h
 ·injection h with h;subst h;refine⟨length_filterMap_le _ _,λ x hx=>?_⟩;obtain⟨e,he,hx⟩:=List.mem_filterMap.1 hx
  cases e with
  | error e=>cases hx
  | ok y=>injection hx with hx;subst hx;exact he
theorem Ni(c:α->α->Int)(k:α):∀l:List α,(iy c k l).length<=l.length+1
 | []=>by simp[iy]
 | x::l=>by
   have:=Ni c k l;unfold iy;split
   ·rw[length_cons,length_cons];omega
   ·split <;> simp
theorem Hc(c:α->α->Int):∀(l s:List α),(l.foldl (λ ks k=>iy c k ks) s).length<=l.length+s.length
 | [],s=>by simp
 | x::l,s=>by have h1:=Hc c l (iy c x s);have h2:=Ni c x s;rw[foldl_cons,length_cons];omega
theorem X6(c:α->α->Int)(l:List α):(yK c l).length<=l.length:=by have:=Hc c l [];unfold yK;exact Ze5
variable{aL:List Tr}{cols:List aX}
theorem DG{g:Bool}  :∀ {l:List (Tr×ByteArray)} {s:dy} {ys:List Tr} {hd:List aX} {s':dy},dm g aL cols l s=.ok (ys,hd,s')->hd.length=l.length
 | [],s,ys,hd,s',h=>by unfold dm at h;injection h with h;injection h with _ h1;injection h1 with h1 _;rw[<- h1];rfl
 |(t,nm)::l,s,ys,hd,s',h=>by
  unfold dm at h;split at h
  ·cases h
  split at h
  ·cases h
  rename_i hi;injection h with h;injection h with _ h1;injection h1 with h1 _;rw[<- h1,length_cons,DG hi,length_cons]
variable{ng:Nat}{aJ:List Tr}{gs:List (List Val)}
theorem Rn{l:List (List Val)}(h:jP ng aJ l=.ok gs):gs.length<=l.length+1:=by
 unfold jP at h;by_cases he:dx ((if ng=0 then [[]] else iN ((l.map λ r=>(r.take ng,gS aJ (r.drop ng))).map (·.1))).map λ k=>cL (dP (aJ.map Tr.op) (l.map λ r=>(r.take ng,gS aJ (r.drop ng))) k))≠0
 ·rw[if_pos he] at h;cases h
 ·rw[if_neg he] at h;injection h with h;rw[<- h,length_map];split
  ·simp
  ·have:=X6 bX ((l.map λ r=>(r.take ng,gS aJ (r.drop ng))).map (·.1));rw[length_map,length_map] at this;unfold iN;omega
variable{q:Qy}{rows left:List (List Val)}
theorem Xd{p:ji}  (h:qX q p cols rows=.ok left):left.length<=rows.length+1/\(p.aK=false->∀r∈left,r∈rows):=by
 unfold qX at h;have hk:(cZ cols q.cD rows).1.length<=rows.length:=length_filter_le _ _;have hkm:∀r∈(cZ cols q.cD rows).1,r∈rows:=λ r hr=>(List.mem_filter.1 hr).1
 split at h
 ·cases h
 split at h
 ·injection h with h;subst h;exact⟨by omega,λ _=>hkm⟩
 rename_i hg;split at h
 ·cases h
 rename_i l hl;have Ht:=(Nh hl).1;rw[length_map] at Ht;split at h
 ·cases h
 rename_i gs pV;split at h
 ·cases h
 injection h with h;subst h;refine⟨?_,λ e=>absurd e hg⟩;have h1:(cZ p.st.aL p.having gs).1.length<=gs.length:=length_filter_le _ _;have h2:=Rn pV;omega
variable{hd:List aX}{la:List (List Val)}
theorem X7(h:jF q cols rows=.ok (hd,la))(hi:q.items.length<=40)(hc:cols.length<=40)(hr:∀r∈rows,r.length<=40):hd.length<=40/\la.length<=rows.length+1/\∀r∈la,r.length<=40:=by
 unfold jF at h;split at h
 ·cases h
 rename_i p hp;obtain⟨pg,pi,gc,vk,s1,s2,_,_,hit,_,_,phd⟩:=uJ hp;have rZ:=ym hit;split at h
 ·cases h
 split at h
 ·cases h
 rename_i left aqw;obtain⟨k1,k2⟩:=Xd aqw;split at h
 ·cases h
 rename_i ls hls;obtain⟨m1,m2⟩:=Nh hls;rw[length_map] at m1
 have hrow:∀x∈ls,x.row.length<=40:=λ x hx=>by
  obtain⟨r,hr2,he⟩:=List.mem_map.1 (m2 x hx);unfold bB at he;split at he
  ·cases he
  rename_i l hl;injection he with he;subst he;unfold RZ;dsimp only;split
  ·rename_i hnil;have hq:q.items=[]:=by rw[hnil] at rZ;exact List.length_eq_zero_iff.1 (by rw[<- rZ];rfl)
   exact hr r (k2 (pg.trans (pi hq)) r hr2)
  ·rw[length_take];omega
 injection h with h;injection h with h1 h2;subst h1 h2;refine⟨?_,?_,?_⟩
 ·rw[phd];split
  ·exact hc
  ·have:=DG hit;omega
 ·rw[length_map];have hs:∀ds,(jr ds ls).length=ls.length:=λ ds=>(oV _ ls).length_eq
  split
  ·rw[hs];omega
  ·rw[length_take,hs];omega
 ·intro r hr2;obtain⟨x,hx,rfl⟩:=List.mem_map.1 hr2;refine hrow x ?_;have hs:∀ds (y:fk),y∈jr ds ls->y∈ls:=λ ds y hy=>(oV _ ls).mem_iff.1 hy
  split at hx
  ·exact hs _ _ hx
  ·exact hs _ _ (mem_of_mem_take hx)
structure rY (w:World) (q:Qy) (L:QL) (CA:Option Addr) (cols:List aX) (RA:Option Addr) (rows:List aW):Prop where
 qy:pY w q L
 ok:q.Ok
 smalls:Tr.smalls q.all
 nodes:Tr.aQ q.all<=1100000
 bT:q.bT.size<=1048576
 ln:L.l.n<=1048576
 lim:∀n∈q.lim,n<=9223372036854775807
 env:zH w
 cr:RC w w.heap.size CA cols
 cl:cols.length<=140737488355328
 rr:RR w w.heap.size RA rows
 rn:rows.length<=140737488355328
 each:∀r∈rows,r.l.length<=140737488355328/\∀v∈r.l,v.Ok
section
variable {w w':World} {q:Qy} {L:QL} {CA:Option Addr} {cols:List aX} {RA:Option Addr} {rows:List aW}
theorem rY.later (h:rY w q L CA cols RA rows)(hb:aj w w'):rY w' q L CA cols RA rows:=
 ⟨h.qy.later hb,h.ok,h.smalls,h.nodes,h.bT,h.ln,h.lim,h.env.later hb,h.cr.later hb,h.cl,h.rr.later hb,h.rn,h.each⟩
theorem Qy.Ok.all (h:q.Ok):Tr.cN q.all:=by unfold Qy.all;exact mq.2 ⟨mq.2 ⟨h.i,mq.2 ⟨mq.2 ⟨h.w,h.g⟩,h.h⟩⟩,h.o⟩
theorem rY.great (cc rc:Nat)(h:rY w q L CA cols RA rows):ar 9 #[mR q L,.slice CA cols.length cc,.slice RA rows.length rc] w (JG q cols rows w):=by
 have hn:=h.nodes;rw[uU] at hn;have l1:=jN (q.items.map (·.1));have l2:=jN q.cD;have l3:=jN q.aL;have l4:=jN q.eU;have l5:=jN (q.ord.map (·.1));rw[length_map] at l1 l5;have hf:=h.bT;have hl:=h.ln;have i1:L.i.n=q.items.length:=by have:=h.qy.i.n;simpa using this
 have i2:L.o.n=q.ord.length:=by have:=h.qy.o.n;simpa using this
 have hc:=h.cl;have hr:=h.rn;exact WV q L CA cc cols RA rc rows w h.qy WC h.ok.all WC ⟨by omega,by omega,by omega⟩ h.rr WC WC λ r hr=>by have:=(h.each r hr).1;omega
theorem rY.cr_ (h:rY w q L CA cols RA rows)(g:GOK q cols rows):CR w CA cols RA rows:=
 ⟨h.env,h.cr,g.cl,h.rr,g.rn,λ r hr=>⟨g.each r hr,(h.each r hr).2⟩⟩
theorem rY.few (h:rY w q L CA cols RA rows)(g:GOK q cols rows):Few q:=by have hn:=MZ h.smalls (by have:=h.nodes;omega) g.size;have:=g.g;have:=g.w;have:=g.h;have:=g.i;have:=g.o;exact⟨by omega,by omega,by omega,by omega,by omega,by omega,h.lim⟩
end
def yy (q:Qy)(m:Int):Qy:= { q with lim:=[m] }
def JH (L:QL)(g:Nat):QL:= { L with l:=⟨some ⟨g,0,none⟩,1,1⟩}
theorem zc3.KaA(h:p:=by have r0:ρ (.tmp 29)=.slice RA rows.length rc:=q5.1;exact Zce):p:=h
theorem zc4.KaA(h:p:=by have r0:ρ (.tmp 27)=mR q L:=q5.1;have r1:ρ (.tmp 28)=.slice CA cols.length cc:=q5.2.1;have r2:σ 3=some (ρ (.tmp 30)):=q5.2.2.1;obtain⟨A,c,rs,e2,Zu,hm⟩:=hG.own jZ _ r2;rw[jZ] at hG;have e1:=hc.func 11;refine bj (f:=11) (args:= #[mR q L,.slice CA cols.length cc,.slice A rs.length c]) (w':=w) (by simp[go_sem,e1,r0,r1,e2];done) ?_;refine(Nb c (sZ cc (HQY.ae.later hG.low) gh.ae zZ.ae ((HCR.ae.later hG.low).same Zu hm))).mono ?_;exact Zdu):p:=h
theorem zc5.KaA(h:p:=by have r0:σ 4=some (ρ (.tmp 31)):=q5.1;rw[jZ] at hG;refine aq (v:=ρ (.tmp 31)) (w':=w) Tbj ?_;exact Zgd):p:=h
theorem zc6.KaA(h:p:=by have r0:σ 5=some (ρ (.tmp 26)):=q5.1;exact Zcy):p:=h
theorem zc7.KaA(h:p:=by have r0:σ 5=some (ρ (.tmp 26)):=q5.1;exact ZcR):p:=h
theorem zc8.KaA(h:p:=by exact Zdw):p:=h
theorem zc9.KaA(h:p:=by have r0:σ 8=some (ρ (.tmp 9)):=q5.1;have r1:σ 6=some (ρ (.tmp 32)):=q5.2.1;exact Za3):p:=h
theorem zda.KaA(h:p:=by have r0:ρ (.tmp 41)=.slice RA rows.length rc:=q5.1;exact Zce):p:=h
theorem zdb.KaA(h:p:=by have r0:ρ (.tmp 39)=mR (yy q m) (JH L gL):=q5.1;have r1:ρ (.tmp 40)=.slice CA cols.length cc:=q5.2.1;have r2:σ 3=some (ρ (.tmp 42)):=q5.2.2.1;obtain⟨A,c,rs,e2,Zu,hm⟩:=hG.own jZ _ r2;rw[jZ] at hG;have e1:=hc.func 11;refine bj (f:=11) (args:= #[mR (yy q m) (JH L gL),.slice CA cols.length cc,.slice A rs.length c]) (w':=w) (by simp[go_sem,e1,r0,r1,e2];done) ?_;refine(Nb c (sZ cc (HQY.ae.later hG.low) avW.ae aqy.ae ((HCR.ae.later hG.low).same Zu hm))).mono ?_;exact Zdu):p:=h
theorem zdc.KaA(h:p:=by have r0:σ 4=some (ρ (.tmp 43)):=q5.1;rw[jZ] at hG;refine aq (v:=ρ (.tmp 43)) (w':=w) Tbj ?_;exact Zgd):p:=h
theorem zdd.KaA(h:p:=by have r0:σ 5=some (ρ (.tmp 38)):=q5.1;exact Zcy):p:=h
theorem zde.KaA(h:p:=by have r0:σ 5=some (ρ (.tmp 38)):=q5.1;exact ZcR):p:=h
theorem zdf.KaA(h:p:=by exact Zdw):p:=h
theorem zdg.KaA(h:p:=by have r0:σ 8=some (ρ (.tmp 11)):=q5.1;have r1:σ 6=some (ρ (.tmp 44)):=q5.2.1;exact Za3):p:=h
theorem zdL.KaG(h:p:=by exact Zfo):p:=h
theorem zdM.KaG(h:p:=by
 clear fM y2;go_wp2_with fail;go_roundw;case rel=>exact⟨i+1,by omega,by omega,by go_num,ai.then cJ hL⟩
 case measure=>exact Za1):p:=h
theorem zdV.KaJ(h:p:=by simp only[eJ,Uaa] at y0 y1 c2 y3 y4 y5 y6 x7;show(execOp ρ _).run Tryz.prog w=.ok (.value (mR q L)) w;simp[go_sem,r0,y0,y1,c2,y3,y4,y5,y6,x7,mR]):p:=h
theorem zdW.KaJ(h:p:=by simp only[eJ,Uaa] at y0 y1 c2 y3 y4 y5 y6 x7;show(execOp ρ _).run Tryz.prog w=.ok (.value (mR (yy q m) (JH L gL))) w;simp[go_sem,r0,y0,y1,c2,y3,y4,y5,y6,x7,mR]):p:=h
theorem zgd.Kbw(h:p:=by go_big_quiet_step ((go_at_call 14;exact aF (Nat.le_refl _) (hc1 _)));open zdL in exact ZbB):p:=h
theorem zge.Kbw(h:p:=by go_big_quiet_step ((go_at_call 14;exact aF (Nat.le_refl _) (hc1 _)));open zdM in exact ZbB):p:=h
theorem zgO.KbJ(h:p:=by
 simp only[eJ,Uaa] at y0 y1 c2 y3 y4 y5 y6 x7;go_wp2_with fail;have hgr:=(XI.ae.later HB.ae).great cc rc;unfold mR at hgr;refine hgr.mono ?_;rintro e W2 ⟨b,rfl,b3,aZ⟩;have aqx:=aa aZ;replace HB:=aa (ai.then HB.ae b3);replace HO:=aa (HO.ae.later b3);have y6:=HO.ae.cell 6;have x7:=HO.ae.cell 7;simp only[eJ,Uaa] at y6 x7;clear hgr b3 aZ;cases b;case true=>exact Zg4
 have HG:=aa (aqx.ae rfl);clear aqx;by_cases hl:0 < L.l.n
 ·have t1:decide (0 < L.l.n)=true:=decide_eq_true hl;exact Zg4
 have t1:decide (0 < L.l.n)=false:=decide_eq_false hl;have zh:=aa (show q.lim=[] from List.length_eq_zero_iff.1 (by have:=XI.ae.qy.l.1;omega));clear hl;go_upto_region 3 with fail;clear y6 x7 t1;have Xe:=aa (XI.ae.later HB.ae);have HQY:=aa Xe.ae.qy;have gh:=aa Xe.ae.ok;have zZ:=aa (Xe.ae.few HG.ae);have HCR:=aa (Xe.ae.cr_ HG.ae);refine mS _ _ (take_append_drop 10 _).symm (rgU q L CA cc cols RA rc rows) [3,4,5,6,7,8,9] (kH W2 (rows.map (·.l)) (jF q cols (rows.map (·.l)))) (λ σ w h=>qz.later h (Below.refl _ _).drew) (qz.start _ _ _) Taa Taa Taa Taa ?_ ?_
 ·simp only[take_succ_cons,take_zero];refine⟨?_,Zec,Zed,?_,?_,?_,?_,?_,?_,?_,trivial⟩
  ·intro ρ w σ hc hG q5 he hno;refine⟨rfl,?_⟩;unfold kH at hG;rw[if_neg Tab];have r0:ρ (.tmp 4)=aw g:=q5.1;have cJ:aB w g 27 (eJ q L):=(hG.low.block g HO.ae.lt).trans HO.ae;open zdV in exact ZbL
  ·open zc3 in exact Zbg
  ·open zc4 in exact Zbg
  ·open zc5 in exact Zbg
  ·open zc6 in exact Zbg
  ·open zc7 in exact Zbg
  ·open zc8 in exact Zbg
  ·open zc9 in exact Zbg
 ·intro σ X8 hM hG;simp only[Uab];intro a0 q0 a1 KK a2 NX a3 NO a4 Nm a5 Ly a6 q6 eva q7 a8 q8;unfold kH at hG;replace Nm:σ 4=some a4:=Nm;replace Ly:σ 5=some a5:=Ly;replace q6:σ 6=some a6:=q6;replace q7:σ 7=some eva:=q7;replace q8:σ 8=some a8:=q8;obtain⟨v9,h9⟩:=Option.isSome_iff_exists.1 (hM 9 Tab);rw[Nm,Ly,q6,q7,q8,h9] at hG;obtain⟨ga,csa,ev',e4,e5,e6,e7,e8,Pd,HX,hv,cJ⟩:=hG.fin;have Ka:=aa HX;have Va:=aa hv;have Ba:=aa cJ;have Ga:=aa Pd;clear q0 KK NX NO Nm Ly q6 q7 q8 hG HX hv cJ Pd hM h9;subst e4 e5 e6 e7 e8;simp only[bE,Act.put,Uac];clear σ v9;have J0:=aa HO.ae.lt;replace HB:=aa (ai.then HB.ae Ba.ae);replace HO:=aa (HO.ae.later Ba.ae);clear Xe HQY HCR;have hKQ:=HO.ae;have hgr:=dU (pM (p:=g) (Below.refl X8.heap.size X8)) 7 (aH X8.heap.size 1 1);have bA:=ah (X8.setCell ⟨g,7,none⟩ (aH X8.heap.size 1 1)) (.cells #[af m] 2);have kL:=aB.new (X8.setCell ⟨g,7,none⟩ (aH X8.heap.size 1 1)) 2 #[af m];rw[World.size_setCell] at kL;have hng:ga≠g:=by have:=Ga.ae;have:=J0.ae;omega
  replace Ka:=aa ((Ka.ae.grown hgr λ e=>by have:=Option.some.inj e;omega).later bA);replace Va:=aa ((Va.ae.V6 hKQ Tab Tab Tab hgr).later bA);have KL:=aa kL;have aet:=aa (show aB _ g 27 (eJ (yy q m) (JH L X8.heap.size))from(hKQ.aT 7 (aH X8.heap.size 1 1)).later bA);have rK:=aa (Below.trans (HB.ae.setCell (p:=⟨g,7,none⟩) HGQ.ae (aH X8.heap.size 1 1)) (bA.mono (by rw[World.size_setCell];exact HB.ae.size)));have x7:=HO.ae.cell 7;simp only[eJ,Uaa] at x7;have f7:=HO.ae.frozen 7;have vo:=HO.ae.lt;clear bA kL hKQ hgr hng HO HB;go_upto_region 5 with fail
  clear x7 f7 vo;generalize World.alloc (World.setCell _ _ _) _=W5 at*;generalize X8.heap.size=gL at*;have Xe:=aa (XI.ae.later rK.ae);have HQY:=aa (show pY W5 (yy q m) (JH L gL)from⟨Xe.ae.qy.i,Xe.ae.qy.w,Xe.ae.qy.g,Xe.ae.qy.h,Xe.ae.qy.o,rfl,.inr ⟨gL,0,rfl,KL.ae.lt,λ LT x hx=>by
   match LT,hx with
   | 0,hx=>injection hx with hx;subst hx;exact KL.ae.cell 0
   | n+1,hx=>cases hx⟩⟩)
  have avW:=aa (show(yy q m).Ok from⟨gh.ae.i,gh.ae.w,gh.ae.g,gh.ae.h,gh.ae.o,gh.ae.ni,gh.ae.nw,gh.ae.ng,gh.ae.nh,gh.ae.no⟩);have aqy:=aa (show Few (yy q m)from⟨zZ.ae.g,zZ.ae.w,zZ.ae.h,zZ.ae.i,zZ.ae.o,zZ.ae.nodes,λ n hn=>by
   have hn:n∈ [m]:=hn
   rw[mem_singleton] at hn
   subst hn
   omega⟩)
  have HCR:=aa (Xe.ae.cr_ HG.ae);refine mS _ _ (take_append_drop 10 _).symm (rgU (yy q m) (JH L gL) CA cc cols RA rc rows) [3,4,5,6,7,8,9] (kH W5 (rows.map (·.l)) (jF (yy q m) cols (rows.map (·.l)))) (λ σ w h=>qz.later h (Below.refl _ _).drew) (qz.start _ _ _) Taa Taa Taa Taa ?_ ?_
  ·simp only[take_succ_cons,take_zero];refine⟨?_,Zec,Zed,?_,?_,?_,?_,?_,?_,?_,trivial⟩
   ·intro ρ w σ hc hG q5 he hno;refine⟨rfl,?_⟩;unfold kH at hG;rw[if_neg Tab];have r0:ρ (.tmp 4)=aw g:=q5.1;have cJ:aB w g 27 (eJ (yy q m) (JH L gL)):=(hG.low.block g aet.ae.lt).trans aet.ae;open zdW in exact ZbL
   ·open zda in exact Zbg
   ·open zdb in exact Zbg
   ·open zdc in exact Zbg
   ·open zdd in exact Zbg
   ·open zde in exact Zbg
   ·open zdf in exact Zbg
   ·open zdg in exact Zbg
  ·intro σ w9b hM hG;simp only[Uab];intro a0 q0 a1 KK a2 NX a3 NO a4 Nm a5 Ly a6 q6 evb q7 a8 q8;unfold kH at hG;replace Nm:σ 4=some a4:=Nm;replace Ly:σ 5=some a5:=Ly;replace q6:σ 6=some a6:=q6;replace q7:σ 7=some evb:=q7;replace q8:σ 8=some a8:=q8;obtain⟨v9,h9⟩:=Option.isSome_iff_exists.1 (hM 9 Tab);rw[Nm,Ly,q6,q7,q8,h9] at hG;obtain⟨gb,csb,ev',e4,e5,e6,e7,e8,Pd,HX,hv,cJ⟩:=hG.fin;have Mg:=aa HX;have Vb:=aa hv;have Bb:=aa cJ;have Gb:=aa Pd;clear q0 KK NX NO Nm Ly q6 q7 q8 hG HX hv cJ Pd hM h9;subst e4 e5 e6 e7 e8;simp only[bE,Act.put,Uac];clear σ v9;replace HB:=aa (Below.trans rK.ae (Bb.ae.mono rK.ae.size));replace HO:=aa (aet.ae.later Bb.ae);replace Ka:=aa (Ka.ae.later Bb.ae);replace Va:=aa (Va.ae.later Bb.ae);clear Xe HQY HCR rK aet;have kN:=Vp zh.ae hm.1 cols (rows.map (·.l));change jF (yy q m) cols (rows.map (·.l))=_ at kN;replace Vb:=aa (show jM _ _ _ _ from kN▸Vb.ae);clear kN
   cases q5:jF q cols (rows.map (·.l))with
   | error er=>
     rw[q5] at Va Vb;obtain⟨hne,rfl,rfl⟩:=Va.ae.aqn;obtain⟨_,rfl,rfl⟩:=Vb.ae.aqn;have t1:(er != 0)=true:=by simp[hne]
     clear Va Vb q5 hne;go_wp2_with fail;refine(oq _ (XI.ae.env.later HB.ae)).mono ?_;rintro e w1 ⟨rfl,b1⟩;go_wp2_with fail;go_ret;exact⟨rfl,Below.trans HB.ae (b1.mono HB.ae.size)⟩
   | ok x=>
     obtain⟨hd,la⟩:=x;rw[q5] at Va Vb;obtain⟨HA,hc,OA,oc,kE,rfl,rfl,_,q1,q3⟩:=Va.ae.ok_;obtain⟨HA',hc',OB,ob,DI,rfl,rfl,_,q2,q4⟩:=Vb.ae.ok_;have ih:=X7 q5 (by have:=HG.ae.i;omega) (by have:=HG.ae.cl;omega) (λ r q5=>by
      obtain⟨x,hx,rfl⟩:=List.mem_map.1 q5
      have:=HG.ae.each x hx
      omega)
     rw[length_map] at ih;have hF:kE.length=la.length:=by rw[<- q3,length_map]
     have Sm:DI.length=min m.toNat kE.length:=by have:=congrArg List.length q4;rw[length_map,length_take] at this;rw[this,hF]
     have HF:=aa hF;have IH:=aa ih;have Q1:=aa q1;have HFN:=aa q2;have Q3:=aa q3;have Q4:=aa q4;have Q5:=aa q5;have ajv:=aa (show∀r∈kE,r.l.length<=1000 from λ r q5=>by
      have:=ih.2.2 r.l (by rw[<- q3];exact List.mem_map.2 ⟨r,q5,rfl⟩)
      omega)
     have avZ:=aa (show∀r∈DI,r.l.length<=1000 from λ r q5=>by
      have:=ih.2.2 r.l (mem_of_mem_take (i:=m.toNat) (by rw[<- q4];exact List.mem_map.2 ⟨r,q5,rfl⟩))
      omega)
     have uX:kE.length<=101:=by have:=HG.ae.rn;omega
     have TU:DI.length<=kE.length:=by omega
     have u0:=Ka.ae.cell 0;have u1:=Ka.ae.cell 1;have u2:=Ka.ae.cell 2;have z0:=Mg.ae.cell 0;have z1:=Mg.ae.cell 1;have x2:=Mg.ae.cell 2;have y6:=HO.ae.cell 6;simp only[eJ,yy,JH,Uaa] at u0 u1 u2 z0 z1 x2 y6;clear ih q1 q2 q3 q4 q5 hF Va Vb;go_wp2_with fail;clear u0 u1 u2 z0 z1 x2 y6;go_loopw [13] (λ iv wr=>∃i:Nat,i<=DI.length/\iv=af i/\aj w9b wr) (λ iv _=>DI.length - (intOf iv).toNat);case atStart=>exact Zgy
     case round=>
      obtain⟨i,HX,rfl,cJ⟩:=hrel;have ka:=Ka.ae.later cJ;have kb:=Mg.ae.later cJ;have u1:=ka.cell 1;have z1:=kb.cell 1;simp only[Uaa] at u1 z1;have ual:=ka.lt;have vbl:=kb.lt;by_cases vo:i < DI.length
      ·have ajw:i < kE.length:=by omega
       obtain⟨LE,o1,KQ,l1,c1,r1⟩:=(Q1.ae.later cJ).at_ ajw;obtain⟨b3,o2,tO,l2,NE,r2⟩:=(HFN.ae.later cJ).at_ vo;have heq:DI[i].l=kE[i].l:=by have h1:=congrArg (λ l=>l[i]?) Q4.ae;have h2:=congrArg (λ l=>l[i]?) Q3.ae;simp only[getElem?_map,getElem?_eq_getElem vo,getElem?_eq_getElem ajw,Option.map_some] at h1 h2;rw[getElem?_take_of_lt WC,<- h2] at h1;injection h1
       have t1:(bX kE[i].l DI[i].l != 0)=false:=by rw[heq,sB];rfl
       rw[KQ] at u1;rw[tO] at z1;have k1:=λ x:Ext wr.heap.size wr=>(x.h.cell (p:=⟨ga,1,none⟩) ual).trans u1
       have k2:=λ x:Ext wr.heap.size wr=>(x.h.cell (p:=⟨gb,1,none⟩) vbl).trans z1
       have k3:=λ x:Ext wr.heap.size wr=>(x.h.cell (p:=⟨LE,o1+i,none⟩) l1).trans c1
       have k4:=λ x:Ext wr.heap.size wr=>(x.h.cell (p:=⟨b3,o2+i,none⟩) l2).trans NE
       have hc1:=λ x:Ext wr.heap.size wr=>vJ kE[i].A kE[i].c kE[i].l DI[i].A DI[i].c DI[i].l x.w (r1.later x.h) (r2.later x.h) (ajv.ae _ (getElem_mem ajw)) (avZ.ae _ (getElem_mem vo))
       clear u1 c1 NE l1 l2 r1 r2 KQ tO heq ka kb;go_upto_region 15 with fail;clear z1;refine aM 11 wr.heap.size wr (Below.refl _ _) Taa Taa Taa Taa ?_;open zgd in exact Zea
      ·have fE:=aa (Below.trans HB.ae (cJ.mono HB.ae.size));have HBR:=aa cJ;clear ual vbl ka kb u1;go_wp2_with fail;clear z1 cJ;generalize wr=wo at*;go_loopw [14] (λ iv wr=>∃i:Nat,1<=i/\i<=kE.length+1/\iv=af i/\aj w9b wr) (λ iv _=>kE.length+1 - (intOf iv).toNat);case atStart=>exact⟨1,Nat.le_refl _,by omega,rfl,HBR.ae⟩
       case round=>
        obtain⟨i,BO,HX,rfl,cJ⟩:=hrel;have ka:=Ka.ae.later cJ;have u1:=ka.cell 1;have kq:=HO.ae.later cJ;have y6:=kq.cell 6;simp only[eJ,yy,JH,Uaa] at u1 y6;have SK:L.o.n=q.ord.length:=by have:=XI.ae.qy.o.n;simpa using this
        have ual:=ka.lt;have oB:=aa (Below.trans HB.ae (cJ.mono HB.ae.size));by_cases vo:i < kE.length
        ·by_cases ho:q.ord=[]
         ·have hz:L.o.n=0:=by rw[SK,ho];rfl
          rw[hz] at y6;obtain⟨LE,o1,KQ,l1,c1,r1⟩:=(Q1.ae.later cJ).at_ vo;obtain⟨b3,o2,tO,l2,NE,r2⟩:=(Q1.ae.later cJ).at_ (show i - 1 < kE.length by omega);rw[KQ] at tO;injection tO with tO;injection tO with e1 e2;subst e1 e2
          have hle:bX kE[i - 1].l kE[i].l<=0:=by
           have hp:=Vq ho Q5.ae;have h1:=congrArg (λ l=>l[i]?) Q3.ae;have h2:=congrArg (λ l=>l[i - 1]?) Q3.ae;simp only[getElem?_map,getElem?_eq_getElem vo,getElem?_eq_getElem (show i - 1 < kE.length by omega),Option.map_some] at h1 h2;have aqz:i < la.length:=by rw[<- HF.ae];exact vo
           rw[getElem?_eq_getElem aqz] at h1;rw[getElem?_eq_getElem (show i - 1 < la.length by omega)] at h2;injection h1 with h1;injection h2 with h2;rw[h1,h2];exact List.pairwise_iff_getElem.1 hp (i - 1) i WC aqz WC
          have t1:decide ((0:Int)< bX kE[i - 1].l kE[i].l)=false:=decide_eq_false WC;have hkm:(i:Int) - 1=((i - 1:Nat):Int):=by omega
          have u1':=u1;rw[KQ] at u1;have k1:=λ x:Ext wr.heap.size wr=>(x.h.cell (p:=⟨ga,1,none⟩) ual).trans u1
          have k3:=λ x:Ext wr.heap.size wr=>(x.h.cell (p:=⟨LE,o1+i,none⟩) l1).trans c1
          have k4:=λ x:Ext wr.heap.size wr=>(x.h.cell (p:=⟨LE,o1+(i - 1),none⟩) l2).trans NE
          have hc1:=λ x:Ext wr.heap.size wr=>vJ kE[i - 1].A kE[i - 1].c kE[i - 1].l kE[i].A kE[i].c kE[i].l x.w (r2.later x.h) (r1.later x.h) (ajv.ae _ (getElem_mem _)) (ajv.ae _ (getElem_mem _))
          clear u1 c1 NE l1 l2 r1 r2 ka kq hle SK;go_upto_region 20 with fail;clear u1' y6;refine aM 12 wr.heap.size wr (Below.refl _ _) Taa Taa Taa Taa ?_;open zge in exact Zea
         ·have hz:L.o.n≠0:=by rw[SK];exact λ e=>ho (List.length_eq_zero_iff.1 e)
          have t1:((L.o.n:Int)==0)=false:=by simp[hz]
          have t2:(L.o.n==0)=false:=by simp[hz]
          have t3:decide (L.o.n=0)=false:=decide_eq_false hz;clear ka kq;exact Zep
        ·clear ka kq y6;exact Zep):p:=h
theorem ze7.Ka4(h:p:=by rw[<- hg] at HO ⊢;have HGQ:=aa (show w.heap.size<=g by omega);clear hg;have HO:=aa (show aB W1 g 27 (eJ q L)from HO.ae);have y0:=HO.ae.cell 0;open zgO in exact Zez):p:=h
theorem limit_any (q:Qy)(L:QL)(CA:Option Addr)(cc:Nat)(cols:List aX)(RA:Option Addr)(rc:Nat)(rows:List aW)(m:Int)(hm:0<=m/\m<=255)(w:World)(h:rY w q L CA cols RA rows):
  ar 4 #[mR q L,.slice CA cols.length cc,.slice RA rows.length rc,ag m] w λ e w'=>e=.returned (.bool true)/\aj w w':=by have XI:=aa h;have LE:=ah w (.cells (eJ q L) 27);have k1:=aB.new w 27 (eJ q L);have HB:=aa LE;have HO:=aa k1;clear h LE k1;unfold mR;unfold eJ at HB HO;go_enter Tryz.func4,Tryz.ntmps4;open ze7 in exact ZcK
def laidL:List (String×DataW Unit):=Rows.queryLimitRow.laid
noncomputable def laidW (os:Os):World:=World.laidAll Tryz.prog os laidL
theorem laid_os (os:Os):(laidW os).os=os:=World.laidAll_os _ _ _
theorem laid_met (os:Os)(args:Array Value):laidMet Tryz.prog laidL ((laidW os).forCall (λ _ _=>0) ⟨#[],args,[]⟩).memory:=
 laidMet_laidAll _ Taa Taa
variable{W:World}
theorem env_of(h:laidMetH Tryz.prog laidL W):zH W:=by rw[MakeChecks.laidMetH_plain _ _ _ Taa] at h;have h3:laidMet Tryz.prog [("internal/strconv.uint64pow10",Lib.tabData .u64 Lib.pow10Tab)] W:=h.tail.tail;exact Lib.tabIs_of_head (g:=0) (t:=261) (e:=195) (n:=20) Taa Taa Tryz.underlying261 Tryz.underlying195 Taa Taa h3
section
variable {H:Type} {enc:TypeId×Value->H} {W:World} {base:Nat} {v0 v1 v2:Value} {d0 d1 d2:DataW H} {p0 p1 p2:List MemPlace}
theorem law_in (o0:Value.okWide Tryz.prog W .any base 27 v0)(k0:DataW.Trod enc Tryz.prog W 0 (λ _=>true) true 27 v0 d0 p0)(l0:Light 27 d0)
  (o1:Value.okWide Tryz.prog W .any base 28 v1) (k1:DataW.Trod enc Tryz.prog W 0 (λ _=>true) true 28 v1 d1 p1) (l1:Light 28 d1)
  (o2:Value.okWide Tryz.prog W .any base 29 v2) (k2:DataW.Trod enc Tryz.prog W 0 (λ _=>true) true 29 v2 d2 p2) (l2:Light 29 d2)
  (hb:Rows.uptoBulk d0<=1048576) (hE:zH W):∃q L CA cc cols RA rc rows,v0=mR q L/\v1=.slice CA (List.length cols) cc/\v2=.slice RA (List.length rows) rc/\rY W q L CA cols RA rows:=by obtain⟨q,L,rfl,Q⟩:=Rm o0 k0 l0;obtain⟨CA,cols,cc,rfl,c1,c2,_⟩:=Ud o1 k1 l1;obtain⟨RA,rows,rc,rfl,r1,r2,r3⟩:=Xc o2 k2 l2;obtain⟨s1,s2,s3⟩:=Q.small hb;have:=Q.nodes;exact⟨q,L,CA,cc,cols,RA,rc,rows,rfl,rfl,rfl,Q.at_,Q.ok,s1,by omega,s2,s3,Q.lim,hE,c1,c2,r1,r2,λ r hr=>⟨(r3 r hr).1,λ v hv=>((r3 r hr).2 v hv).1⟩⟩
end
end Go.Proofs.YtndgjggokjickaaGreatDoor
