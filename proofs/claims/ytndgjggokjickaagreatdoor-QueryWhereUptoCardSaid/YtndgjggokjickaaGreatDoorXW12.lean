/- Parts of the proof. -/
import Derived.Deep.Strs
import Derived.Lay
import Derived.LaidMore
import Derived.Stop.LaidErr
import Derived.HandedShaped
import Derived.Deep.DeepHandedRow
import Derived.Test.YtndgjggokjickaaGreatDoorXW11
namespace Go.Proofs.YtndgjggokjickaaGreatDoor
variable{p:Prop}
set_option maxHeartbeats 90000000
set_option maxRecDepth 100000
open Go.ChangeShapes Go.WideShapes Go.ChangeAt Go.RowKit List
set_option linter.unusedVariables false
set_option linter.unusedSimpArgs false
theorem zav.KW(h:p:=by rw[<- pU] at nx x2 x7 Rf Rg ⊢;clear pU;have t1:decide ((200:Int)<(L.i.n:Int))=true:=decide_eq_true WC;clear h0;exact ZbC):p:=h
theorem zbs.Kag(h:p:=by have x2:=k1.cell 2;have x7:=k1.cell 7;have Rf:=k1.cell 19;have Rg:=k1.cell 20;simp only[Uaa] at x2 x7 Rf Rg;open zav in exact Zae):p:=h
theorem WU (q:Qy)(L:QL)(w:World)(hf:q.bS.size<=4611686018427387904)(hn:L.i.n<=4611686018427387904/\L.o.n<=4611686018427387904/\L.l.n<=4611686018427387904)(h0:200 < L.i.n):ar 21 #[.agg (Nt q L)] w (qT w):=by
 open zbs in exact Zaw
theorem zaw.KW(h:p:=by rw[<- pU] at nx x2 x7 XP Rf Rg ⊢;clear pU;have t1:decide ((200:Int)<(L.i.n:Int))=false:=decide_eq_false WC;have t2:decide ((200:Int)<(L.o.n:Int))=true:=decide_eq_true WC;clear h0 h1;exact ZbC):p:=h
theorem zbt.Kag(h:p:=by have x2:=k1.cell 2;have x7:=k1.cell 7;have XP:=k1.cell 13;have Rf:=k1.cell 19;have Rg:=k1.cell 20;simp only[Uaa] at x2 x7 XP Rf Rg;open zaw in exact Zae):p:=h
theorem WV (q:Qy)(L:QL)(w:World)(hf:q.bS.size<=4611686018427387904)(hn:L.i.n<=4611686018427387904/\L.o.n<=4611686018427387904/\L.l.n<=4611686018427387904)(h0:¬200 < L.i.n)(h1:200 < L.o.n):ar 21 #[.agg (Nt q L)] w (qT w):=by
 open zbt in exact Zaw
theorem zgN.KbL(h:p:=by have t3:decide ((200:Int)<(L.l.n:Int))=true:=decide_eq_true WC;clear h0 h1 h2;exact ZbC):p:=h
theorem zax.KW(h:p:=by rw[<- pU] at nx x2 x7 XP c14 Rf Rg ⊢;clear pU;open zgN in exact Zet):p:=h
theorem zbu.Kag(h:p:=by have x2:=k1.cell 2;have x7:=k1.cell 7;have XP:=k1.cell 13;have c14:=k1.cell 14;have Rf:=k1.cell 19;have Rg:=k1.cell 20;simp only[Uaa] at x2 x7 XP c14 Rf Rg;open zax in exact Zae):p:=h
theorem WW (q:Qy)(L:QL)(w:World)(hf:q.bS.size<=4611686018427387904)(hn:L.i.n<=4611686018427387904/\L.o.n<=4611686018427387904/\L.l.n<=4611686018427387904)(h0:¬200 < L.i.n)(h1:¬200 < L.o.n)(h2:200 < L.l.n):ar 21 #[.agg (Nt q L)] w (qT w):=by
 open zbu in exact Zaw
theorem zgO.KbL(h:p:=by have t3:decide ((200:Int)<(L.l.n:Int))=false:=decide_eq_false WC;have t4:decide ((5000:Int)<(q.bS.size:Int))=true:=decide_eq_true WC;clear h0 h1 h2 h3;exact ZbC):p:=h
theorem zay.KW(h:p:=by rw[<- pU] at nx z1 x2 x3 x5 x7 x8 x9 XP x14 x16 Rf Rg x24 x27 ⊢;clear pU;open zgO in exact Zet):p:=h
theorem zfM.Kbo(h:p:=by simp only[Uaa] at z1 x2 x3 x5 x7 x8 x9 XP x14 x16 Rf Rg x24 x27;open zay in exact Zae):p:=h
theorem zbv.Kag(h:p:=by open zfM in exact ZdD):p:=h
theorem WY (q:Qy)(L:QL)(w:World)(hf:q.bS.size<=4611686018427387904)(hn:L.i.n<=4611686018427387904/\L.o.n<=4611686018427387904/\L.l.n<=4611686018427387904)(h0:¬200 < L.i.n)(h1:¬200 < L.o.n)(h2:¬200 < L.l.n)(h3:5000 < q.bS.size):ar 21 #[.agg (Nt q L)] w (qT w):=by
 open zbv in exact Zaw
variable{base:Nat}{v:Value}{ys:List Ex}
theorem aeA{w:World}   (h:aF bF 46 7 w base v ys):∃A c,v=.slice A ys.length c/\RE w w.heap.size A ys:=by
 obtain⟨A,c,hv,hc⟩:=ek (f:=bF) (size:=7) (λ _=>rfl) h;refine⟨A,c,hv,?_⟩;rcases hc with hc |⟨g,hA,hg,hc⟩
 ·exact .inl hc
 ·refine .inr ⟨g,0,hA,hg,λ i x hx=>?_⟩;have c0:=hc i x 0 _ hx WC rfl;have c1:=hc i x 1 _ hx WC rfl;have c2:=hc i x 2 _ hx WC rfl;have c3:=hc i x 3 _ hx WC rfl;have c4:=hc i x 4 _ hx WC rfl;have c5:=hc i x 5 _ hx WC rfl;have c6:=hc i x 6 _ hx WC rfl;unfold cw;rw[Nat.zero_add];exact⟨by simpa using c0,c1,c2,c3,c4,c5,c6⟩
theorem He (q:Qy)(w:World)(v:Value)(ys:List Ex)(base:Nat)(ho:aF bF 46 7 w base v ys)(ht:Tr.aO w (Old w) q.all ys)(aZ:Tr.cL q.all)(hl:q.all.length<=1599289640356):ar 22 #[v] w λ e w'=>e=.returned (af (Tr.dC 0 q.all))/\aj w w':=by obtain⟨A,c,rfl,CT⟩:=aeA ho;rw[Tr.aO.length ht];exact RJ A c q.all ys w hl ht CT (Tr.Bl q.all ys w aZ ht)
theorem zh4.Kch(h:p:=by exact⟨_,rfl,hb4⟩):p:=h
theorem zgP.KbL(h:p:=by
 have t3:decide ((200:Int)<(L.l.n:Int))=false:=decide_eq_false WC;have t4:decide ((5000:Int)<(q.bS.size:Int))=false:=decide_eq_false WC;clear h0 h1 h2 h3;go_upto_region 3 with fail;clear t1 t2 t3 t4 z1 x3 x5 x8 x9 XP x14 x16 Rf x24 x27;go_wp2_with fail;go_loopw [3] (λ iv wr=>iv=af 0/\wr=W1) (λ _ _=>0);case atStart=>exact⟨rfl,rfl⟩
 case round=>
  obtain⟨rfl,rfl⟩:=hrel;go_wp2_with fail;go_loopw [4] (λ iv wr2=>iv=af 0/\wr2=wr) (λ _ _=>0);case atStart=>exact⟨rfl,rfl⟩
  case round=>
   obtain⟨rfl,rfl⟩:=hrel;clear x2;go_wp2_with fail;clear Rg;generalize wr=wz at*;go_loopw [5] (λ iv wr2=>∃k:Nat,k<=L.i.n/\iv=af k/\wr2=wz) (λ iv _=>L.i.n - (intOf iv).toNat);case atStart=>exact⟨0,Nat.zero_le _,rfl,rfl⟩
   case round=>
    obtain⟨k,hk,rfl,rfl⟩:=hrel;by_cases hlt:k < L.i.n
    ·have TA:k < zi.length:=by rw[oy.ae];exact hlt
     obtain⟨b,off,hA,kz,cf⟩:∃b off,L.i.A=some ⟨b,off,none⟩/\b < w.heap.size/\w.cell? ⟨b,off+k*8+7,none⟩=some zi[k].2:=by
      rcases HF.ae with h |⟨b,off,h1,h2,h3⟩
      ·rw[h] at TA;simp at TA
      ·exact⟨b,off,h1,h2,(h3 k _ (getElem?_eq_getElem TA)).2⟩
     obtain⟨sv2,CS⟩:=G9.ae k zi[k] (getElem?_eq_getElem TA);rw[CS] at cf;have hc2:=(eB.ae.cell (p:=⟨b,off+k*8+7,none⟩) kz).trans cf;rw[hA] at x7;clear hA CS cf TA;by_cases h5:100 < sv2.size
     ·have t5:decide ((100:Int)<(sv2.size:Int))=true:=decide_eq_true WC;exact ZbC
     ·have t5:decide ((100:Int)<(sv2.size:Int))=false:=decide_eq_false WC;go_wp2_with fail;go_roundw;case rel=>first | exact⟨k+1,hlt,by go_num,trivial⟩| exact⟨k+1,hlt,by go_num,rfl⟩
      case measure=>exact Za0
    ·have hsz:(Tryz.prog.info? 64).map (·.size)=some (Nt q L).size:=by show _=some 28;kernel_rfl
     go_wp2_with (first
      |(refine wpList_load_row rfl 64 (.tmp 1) rfl gs rfl 64 (Nt q L) (0,0) _ om.ae Tryz.underlying64 rfl hsz ?_))
     refine(HEX.ae _ eB.ae).mono ?_;rintro e w3 ⟨v3,ys,rfl,o3,tt,b3⟩;have O3:=aa o3;have TT:=aa (Tr.aO.later tt b3);have tq:=aa (Below.trans eB.ae (b3.mono eB.ae.size));clear o3 tt b3 x7;open zh4 in exact Zgl):p:=h
theorem zaz.KW(h:p:=by rw[<- pU] at nx z1 x2 x3 x5 x7 x8 x9 XP x14 x16 Rf Rg x24 x27 ⊢;clear pU;have om:=aa (show aB W1 gs 64 (Nt q L)from nx.ae);clear nx;open zgP in exact Zet):p:=h
theorem zfN.Kbo(h:p:=by simp only[Uaa] at z1 x2 x3 x5 x7 x8 x9 XP x14 x16 Rf Rg x24 x27;open zaz in exact Zae):p:=h
theorem zbw.Kag(h:p:=by open zfN in exact ZdD):p:=h
theorem WZ (q:Qy)(L:QL)(w:World)(hq:nQ w q L)(hlen:q.items.length+q.bT.length+q.aL.length+q.fq.length+q.ord.length<=1100000)(aZ:Tr.cL q.all)(hf:q.bS.size<=4611686018427387904)(hn:L.i.n<=4611686018427387904/\L.o.n<=4611686018427387904/\L.l.n<=4611686018427387904)(h0:¬200 < L.i.n)(h1:¬200 < L.o.n)(h2:¬200 < L.l.n)(h3:¬5000 < q.bS.size):
  ar 21 #[.agg (Nt q L)] w (qT w):=by
 have HEX:=aa (λ W (hW:aj w W)=>uu (k:=0) q L W (hq.later hW) hlen);obtain⟨hni,zi,hri,hzb,_⟩:=hq.i;have HF:=aa hri;have hzl:zi.length=L.i.n:=by have:=congrArg List.length hzb;simp at this;rw[hni];simpa using this
 have oy:=aa hzl;have G9:=aa (show∀(i:Nat) (x:Ex×Value),zi[i]?=some x->∃s:ByteArray,x.2=Value.string s from λ i x hx=>by
  have h1:=congrArg (λ l=>l[i]?) hzb
  simp only[getElem?_map,hx,Option.map_some] at h1
  cases hy:q.items[i]? with
  | none=>rw[hy] at h1;cases h1
  | some y=>
    rw[hy] at h1
    injection h1 with h1
    exact⟨_,h1⟩)
 have ia:=aa aZ;have xF:=aa (show q.all.length<=1599289640356 by unfold Qy.all;simp only[length_append,length_map];omega);clear hq hlen aZ hzb hri hni;open zbw in exact Zaw
theorem Nc (q:Qy)(L:QL)(w:World)(hq:nQ w q L)(hlen:q.items.length+q.bT.length+q.aL.length+q.fq.length+q.ord.length<=1100000)(aZ:Tr.cL q.all)(hf:q.bS.size<=4611686018427387904)(hn:L.i.n<=4611686018427387904/\L.o.n<=4611686018427387904/\L.l.n<=4611686018427387904):
  ar 21 #[.agg (Nt q L)] w (qT w):=by
 by_cases h0:200 < L.i.n
 ·exact WU q L w hf hn h0
 by_cases h1:200 < L.o.n
 ·exact WV q L w hf hn h0 h1
 by_cases h2:200 < L.l.n
 ·exact WW q L w hf hn h0 h1 h2
 by_cases h3:5000 < q.bS.size
 ·exact WY q L w hf hn h0 h1 h2 h3
 exact WZ q L w hq hlen aZ hf hn h0 h1 h2 h3
structure GOK (q:Qy) (cols:List aW) (rows:List aX):Prop where
 cl:cols.length<=20
 rn:rows.length<=100
 g:q.aL.length<=20
 w:q.bT.length<=20
 h:q.fq.length<=20
 i:q.items.length<=20
 o:q.ord.length<=20
 each:∀r∈rows,r.l.length<=30
 size:Tr.dC 0 q.all<=300
def JJ (q:Qy)(cols:List aW)(rows:List aX)(w:World)(e:Ending)(w':World):Prop:=∃b:Bool,e=.returned (.bool b)/\aj w w'/\(b=false->GOK q cols rows)
theorem zh3.Kch(h:p:=by refine⟨_,rfl,hb4,λ h=>?_⟩;obtain⟨g1,g2,g3,g4,g5,g6,g7⟩:=Xp.ae;exact⟨g1,g2,by rw[<- XD.ae];exact g3,by rw[<- HNW.ae];exact g4,by rw[<- HNH.ae];exact g5,by rw[<- HNI.ae];exact g6,by rw[<- HNO.ae];exact g7,HEA.ae,by have:=of_decide_eq_false h;omega⟩):p:=h
theorem zeT.Ka3(h:p:=by
 rw[<- hg] at L1 c0 c1 c2 y3 c4 c5 c6 c7 ⊢;have HGQ:=aa hg;clear hg;go_wp2_with fail;have hgr:=xO.ae _ Jr.ae;unfold Nt at hgr;refine hgr.mono ?_;rintro e W2 ⟨b,rfl,hL⟩;have eB:=aa (Below.trans Jr.ae (hL.mono Jr.ae.size));have HX:=aa (L1.ae.later hL);have c0:=(HX.ae.cell 0);have c1:=HX.ae.cell 1;have c2:=HX.ae.cell 2;have y3:=HX.ae.cell 3;have c4:=HX.ae.cell 4;have c5:=HX.ae.cell 5;have c6:=HX.ae.cell 6;have c7:=HX.ae.cell 7;simp only[Uaa] at c0 c1 c2 y3 c4 c5 c6 c7;clear hgr hL;have Xx:=aa (HR.ae.later eB.ae);cases b;case true=>exact ZbC
 by_cases h0:20 < cols.length
 ·have t0:decide ((20:Int)<(cols.length:Int))=true:=decide_eq_true WC;exact ZbC
 by_cases h1:100 < rows.length
 ·have t0:decide ((20:Int)<(cols.length:Int))=false:=decide_eq_false WC;have t1:decide ((100:Int)<(rows.length:Int))=true:=decide_eq_true WC;exact ZbC
 by_cases h2:20 < L.g.n
 ·have t0:decide ((20:Int)<(cols.length:Int))=false:=decide_eq_false WC;have t1:decide ((100:Int)<(rows.length:Int))=false:=decide_eq_false WC;have t2:decide ((20:Int)<(L.g.n:Int))=true:=decide_eq_true WC;exact ZbC
 by_cases h3:20 < L.w.n
 ·have t0:decide ((20:Int)<(cols.length:Int))=false:=decide_eq_false WC;have t1:decide ((100:Int)<(rows.length:Int))=false:=decide_eq_false WC;have t2:decide ((20:Int)<(L.g.n:Int))=false:=decide_eq_false WC;have t3:decide ((20:Int)<(L.w.n:Int))=true:=decide_eq_true WC;exact ZbC
 by_cases h4:20 < L.h.n
 ·have t0:decide ((20:Int)<(cols.length:Int))=false:=decide_eq_false WC;have t1:decide ((100:Int)<(rows.length:Int))=false:=decide_eq_false WC;have t2:decide ((20:Int)<(L.g.n:Int))=false:=decide_eq_false WC;have t3:decide ((20:Int)<(L.w.n:Int))=false:=decide_eq_false WC;have t4:decide ((20:Int)<(L.h.n:Int))=true:=decide_eq_true WC;exact ZbC
 by_cases h5:20 < L.i.n
 ·have t0:decide ((20:Int)<(cols.length:Int))=false:=decide_eq_false WC;have t1:decide ((100:Int)<(rows.length:Int))=false:=decide_eq_false WC;have t2:decide ((20:Int)<(L.g.n:Int))=false:=decide_eq_false WC;have t3:decide ((20:Int)<(L.w.n:Int))=false:=decide_eq_false WC;have t4:decide ((20:Int)<(L.h.n:Int))=false:=decide_eq_false WC;have t5:decide ((20:Int)<(L.i.n:Int))=true:=decide_eq_true WC;exact ZbC
 by_cases h6:20 < L.o.n
 ·have t0:decide ((20:Int)<(cols.length:Int))=false:=decide_eq_false WC;have t1:decide ((100:Int)<(rows.length:Int))=false:=decide_eq_false WC;have t2:decide ((20:Int)<(L.g.n:Int))=false:=decide_eq_false WC;have t3:decide ((20:Int)<(L.w.n:Int))=false:=decide_eq_false WC;have t4:decide ((20:Int)<(L.h.n:Int))=false:=decide_eq_false WC;have t5:decide ((20:Int)<(L.i.n:Int))=false:=decide_eq_false WC;have t6:decide ((20:Int)<(L.o.n:Int))=true:=decide_eq_true WC;exact ZbC
 have t0:decide ((20:Int)<(cols.length:Int))=false:=decide_eq_false WC;have t1:decide ((100:Int)<(rows.length:Int))=false:=decide_eq_false WC;have t2:decide ((20:Int)<(L.g.n:Int))=false:=decide_eq_false WC;have t3:decide ((20:Int)<(L.w.n:Int))=false:=decide_eq_false WC;have t4:decide ((20:Int)<(L.h.n:Int))=false:=decide_eq_false WC;have t5:decide ((20:Int)<(L.i.n:Int))=false:=decide_eq_false WC;have t6:decide ((20:Int)<(L.o.n:Int))=false:=decide_eq_false WC;have Xp:=aa (show cols.length<=20/\rows.length<=100/\L.g.n<=20/\L.w.n<=20/\L.h.n<=20/\L.i.n<=20/\L.o.n<=20 from⟨by omega,by omega,by omega,by omega,by omega,by omega,by omega⟩);go_upto_region 3 with fail;clear t0 t1 t2 t3 t4 t5 t6;go_wp2_with fail;go_loopw [7,8] (λ iv _ wr=>∃Kx:Nat,Kx<=rows.length/\iv=af Kx/\W2=wr/\∀j,j < Kx->∀r,rows[j]?=some r->r.l.length<=30) (λ iv _ _=>rows.length - (intOf iv).toNat);case atStart=>exact⟨0,Nat.zero_le _,rfl,rfl,λ j hj=>absurd hj WC⟩
 case round=>
  obtain⟨Kx,KK,rfl,rfl,hp⟩:=hrel;have HP:=aa hp;clear hp;have hk9:Kx<=100:=by have:=Xp.ae.2.1;omega
  by_cases hlt:Kx < rows.length
  ·obtain⟨b,off,rfl,kz,cf,uQ⟩:=Xx.ae.at_ hlt;have hrw:=Qj.ae _ (getElem_mem hlt);have AZ:=aa uQ;have HIK:=aa (getElem?_eq_getElem hlt);clear uQ;obtain⟨r,CT⟩:∃r,r=rows[Kx]:=⟨_,rfl⟩;rw[<- CT] at AZ cf HIK hrw;clear CT;by_cases h5:30 < r.l.length
   ·have t5:decide ((30:Int)<(r.l.length:Int))=true:=decide_eq_true WC;exact ZbC
   have t5:decide ((30:Int)<(r.l.length:Int))=false:=decide_eq_false WC;go_wp2_with fail;go_loopw [8] (λ jv wr2=>∃k:Nat,k<=r.l.length/\jv=af k/\W2=wr2) (λ jv _=>r.l.length - (intOf jv).toNat);case atStart=>exact⟨0,Nat.zero_le _,rfl,rfl⟩
   case round=>
    obtain⟨k,hk,rfl,rfl⟩:=hrel;by_cases hlm:k < r.l.length
    ·obtain⟨b3,aDo,hA,hb3,Xm⟩:=AZ.ae.at_ hlm;unfold ei at Xm;obtain⟨_,_,CS⟩:=Xm;rw[hA] at cf;clear hA;obtain⟨sv,aqv⟩:∃sv,sv=r.l[k].s:=⟨_,rfl⟩;rw[<- aqv] at CS;clear aqv;by_cases h6:300 < sv.size
     ·have t6:decide ((300:Int)<(sv.size:Int))=true:=decide_eq_true WC;exact ZbC
     ·have t6:decide ((300:Int)<(sv.size:Int))=false:=decide_eq_false WC;go_wp2_with fail;go_roundw;case rel=>exact⟨k+1,hlm,by go_num,trivial⟩
      case measure=>exact Za0
    ·go_wp2_with fail;go_roundw
     case rel=>
      refine⟨Kx+1,hlt,by go_num,?_⟩
      have lZ:∀j,j < Kx+1->∀r2,rows[j]?=some r2->r2.l.length<=30:=by
       intro j hj r2 hr2;rcases Nat.lt_or_ge j Kx with h | h
       ·exact HP.ae j h r2 hr2
       ·have:j=Kx:=by omega
        subst this;rw[HIK.ae] at hr2;injection hr2 with hr2;subst hr2;omega
      first
      | exact lZ
      | exact⟨rfl,lZ⟩
      | exact⟨trivial,lZ⟩
     case measure=>exact Za0
  ·have fw:Kx=rows.length:=by omega
   have HEA:=aa (show∀r∈rows,r.l.length<=30 from λ r hr=>by
    obtain⟨i,hi,he⟩:=getElem_of_mem hr
    exact HP.ae i WC r Tay)
   clear fw;go_wp2_with fail;have hex:=HEX.ae _ eB.ae;unfold Nt at hex;refine hex.mono ?_;rintro e w3 ⟨v3,ys,rfl,o3,tt,b3⟩;have O3:=aa o3;have TT:=aa (Tr.aO.later tt b3);have tq:=aa (Below.trans eB.ae (b3.mono eB.ae.size));clear o3 tt b3 c0 c1 c2 y3 c4 c5 c6 c7 hex;open zh3 in exact Zgl):p:=h
theorem Xa (q:Qy)(L:QL)(CA:Option Addr)(cc:Nat)(cols:List aW)(RA:Option Addr)(rc:Nat)(rows:List aX)(w:World)(hq:nQ w q L)(hlen:q.items.length+q.bT.length+q.aL.length+q.fq.length+q.ord.length<=1100000)(aZ:Tr.cL q.all)(hf:q.bS.size<=4611686018427387904)(hn:L.i.n<=4611686018427387904/\L.o.n<=4611686018427387904/\L.l.n<=4611686018427387904)(hr:RR w w.heap.size RA rows)(Qs:rows.length<=4611686018427387904)(cf:cols.length<=4611686018427387904)(lS:∀r∈rows,r.l.length<=4611686018427387904):
  ar 9 #[mM q L,.slice CA cols.length cc,.slice RA rows.length rc] w (JJ q cols rows w):=by
 have HEX:=aa (λ W (hW:aj w W)=>uu (k:=0) q L W (hq.later hW) hlen);have xO:=aa (λ W (hW:aj w W)=>Nc q L W (hq.later hW) hlen aZ hf hn);have ia:=aa aZ;have xF:=aa (show q.all.length<=1599289640356 by unfold Qy.all;simp only[length_append,length_map];omega);have XD:=aa hq.g.n;have HNW:=aa hq.w.n;have HNH:=aa hq.h.n;have HNI:=aa (show L.i.n=q.items.length by have:=hq.i.n;simpa using this);have HNO:=aa (show L.o.n=q.ord.length by have:=hq.o.n;simpa using this);have HR:=aa hr;have Qj:=aa lS;have b1:=ah w (.cells (eI q L) 27);have cJ:=aB.new w 27 (eI q L);have Jr:=aa b1;have L1:=aa cJ;unfold mM;have c0:=cJ.cell 0;have c1:=cJ.cell 1;have c2:=cJ.cell 2;have y3:=cJ.cell 3;have c4:=cJ.cell 4;have c5:=cJ.cell 5;have c6:=cJ.cell 6;have c7:=cJ.cell 7;unfold eI at c0 c1 c2 y3 c4 c5 c6 c7;simp only[Uaa] at c0 c1 c2 y3 c4 c5 c6 c7;have yes:∀w2,aj w w2->JJ q cols rows w (.returned (.bool true)) w2:=λ w2 h=>⟨true,rfl,h,λ h=>by cases h⟩
 have YES:=aa yes;obtain⟨vz,TW,hn3⟩:=hn;unfold eI at Jr L1;clear hq hlen aZ b1 cJ hr lS yes;go_enter Tryz.func9,Tryz.ntmps9;open zeT in exact ZcH
theorem Xb:Tryz.prog.cellsOf 38=1:=by exact Zgn
theorem Xc:Tryz.prog.bytesOf 38=24:=by exact Zgn
theorem DG:Tryz.prog.cellsOf 48=8:=by exact Zgn
theorem Hf:Tryz.prog.cellsOf 117=8:=by exact Zgn
theorem Rh:Tryz.prog.bytesOf 48=104:=by exact Zgn
theorem Xd:Tryz.prog.bytesOf 117=96:=by exact Zgn
theorem Nd:Tryz.prog.cellsOf 22=1:=by exact Zgn
theorem Ri:Tryz.prog.cellsOf 24=1:=by exact Zgn
theorem Rj:Tryz.prog.cellsOf 25=1:=by exact Zgn
theorem DI:Tryz.prog.cellsOf 4=1:=by exact Zgn
theorem Nf:Tryz.prog.cellsOf 27=8:=by exact Zgn
section
variable {H:Type} {enc:TypeId×Value->H} {w:World} {base:Nat} {spare:Nat->Bool} {held:Bool}
theorem wT (d:DataW H):1<=Rows.uptoBulk d:=by
 cases d with
 | lit l=>cases l <;> simp[Rows.uptoBulk]
 | nil=>exact Zgs
 | ptr d=>exact Zgs
 | slice elems spare=>exact Zgs
 | agg parts=>exact Zgs
 | iface t d=>exact Zgs
 | map entries=>exact Zgs
 | held h=>exact Zgs
theorem Ng:∀l:List (DataW H),l.length<=Rows.uptoBulkAll l
 | []=>by simp[Rows.uptoBulkAll]
 | d::l=>by have:=wT d;have:=Ng l;simp only[Rows.uptoBulkAll,length_cons];omega
theorem zeX.Ka4(h:p:=by
 obtain⟨l,Hx,hp⟩:=pick len (P:=λ i a=>(∀d,(elems.map (·.1))[i]?=some d->P a d)/\∀j,j < K->w.cell? ⟨b,off+i*K+j,none⟩=(f a)[j]?) λ i hi=>by obtain⟨a,ha,hca⟩:=nd i hi;refine⟨a,ha,λ j hj=>?_⟩;have:=hca j hj;simp only[dQ] at this;exact this
 subst Hx;refine⟨some ⟨b,off,none⟩,l,cap,elems.map (·.1),rfl,by rw[length_map,hlen],jR,λ i a d ha hd=>(hp i a ha).1 d hd,hb2,.inr ⟨b,off,rfl,hbl,λ i x j u hx hu=>?_⟩⟩;exact Zeg):p:=h
theorem zhF.Kb6(h:p:=by
 have jR:Rows.uptoBulkAll (elems.map (·.1))+1<=Rows.uptoBulk (DataW.slice (elems.map (·.1)) (rest.map (·.1))):=by simp only[Rows.uptoBulk];omega
 rcases Nat.eq_zero_or_pos len with h0 | h0
 ·subst h0;exact⟨some ad,[],cap,[],rfl,rfl,wT _,by simp,by simp,.inl rfl⟩
 have nd:∀i,i < len->∃a:α,(∀d,(elems.map (·.1))[i]?=some d->P a d)/\∀j,j < K->w.cell? ((ad.add (i*K)).add j)=(f a)[j]?:=by intro i hi;have h1:=he i hi;rw[getElem?_eq_getElem WC,hc] at h1;obtain⟨cs,h2,h3⟩:=Option.bind_eq_some_iff.1 h1;obtain⟨a,rfl,ha⟩:=hel n WC cs _ h3 (Og _ (List.mem_map.2 ⟨_,getElem_mem _,rfl⟩));refine⟨a,λ d hd=>?_,(Yv h2).2⟩;rw[getElem?_map,getElem?_eq_getElem WC] at hd;injection hd with hd;rw[<- hd];exact ha
 open zeX in exact ZcJ):p:=h
theorem iI {α:Type}(f:α->List Value)(P:α->DataW H->Prop)(K:Nat) {T e:TypeId}(hT:Tryz.prog.underlying T=some (.slice e))(hc:Tryz.prog.cellsOf e=K)(hK:0 < K)(hf:∀x,(f x).length=K) {fuel:Nat} {cs:List Value} {x:DataW H×List MemPlace}
  (hel:∀m,m < fuel->∀cs x,DataW.trod enc Tryz.prog w base spare held m e cs=some x->Light e x.1->∃a,cs=f a/\P a x.1) (h:DataW.trod enc Tryz.prog w base spare held fuel T cs=some x) (hw:Light T x.1):
  ∃(A:Option Addr) (l:List α) (c:Nat) (es:List (DataW H)),cs=[.slice A l.length c]/\es.length=l.length/\Rows.uptoBulkAll es+1<=Rows.uptoBulk x.1/\(∀(i:Nat) (a:α) (d:DataW H),l[i]?=some a->es[i]?=some d->P a d)/\l.length*Tryz.prog.bytesOf e<=reachBytes/\(l=[]\/∃b off,A=some ⟨b,off,none⟩/\b < w.heap.size/\∀i x j u,l[i]?=some x->(f x)[j]?=some u->w.cell? ⟨b,off+i*K+j,none⟩=some u):=by
 rcases DataW.trod_slice hT h with ⟨hcs,_⟩|⟨ad,len,cap,elems,rest,n,hn,hcs,hx,_,hl,hm,hlen,he,_,_⟩
 ·exact⟨none,[],0,[],hcs,rfl,wT _,by simp,by simp,.inl rfl⟩
 ·open zhF in exact ZfJ
theorem DJ (s:ByteArray):Rows.uptoBulk (DataW.lit (H:=H) (.string s.data.toList))=s.size+1:=by exact Zgs
theorem X8 {fuel:Nat} {cs:List Value} {x:DataW H×List MemPlace}(h:DataW.trod enc Tryz.prog w base spare held fuel 44 cs=some x):∃a:Val,cs=[ag a.k,af a.n,.string a.s]/\(a.Ok/\0<=a.k/\a.k<=255)/\a.s.size<=Rows.uptoBulk x.1:=by
 obtain⟨y0,y1,y2,n,hx,hl,t0,t1,t2⟩:=Deep.trod_struct3 Tryz.underlying44 h;rw[mI] at hl
 match cs,hl with
 | [c0,c1,c2],_=>simp only[gD,vw,si,drop_succ_cons,drop_zero,take_succ_cons,take_zero] at t0 t1 t2;obtain⟨n0,q0,_,f0⟩:=DataW.trod_int Tryz.underlying5 t0;obtain⟨n1,q1,_,f1⟩:=DataW.trod_int Tryz.underlying2 t1;obtain⟨s,q2,z2,f2⟩:=DataW.trod_string Tryz.underlying9 t2;simp at q0 q1 q2;subst q0 q1 q2;refine⟨⟨n0,n1,s⟩,rfl,⟨Hw f1,RH f0⟩,?_⟩;subst hx;have e:=congrArg (λ y=>Rows.uptoBulk y.1) z2;simp only[DJ] at e;simp only[Rows.uptoBulk,Rows.uptoBulkAll];show s.size<=_;omega
structure oq (w:World) (p:Ex×Tr) (d:DataW H):Prop where
 at_:p.2.at_ w (Old w) p.1
 ok:p.2.ok
 nodes:p.2.nodes<=Rows.uptoBulk d
 small:Rows.uptoBulk d<=1048576->p.2.small
structure X9 (w:World) (l:List (Ex×Tr)) (n:Nat):Prop where
 at_:Tr.aO w (Old w) (l.map (·.2)) (l.map (·.1))
 ok:Tr.cL (l.map (·.2))
 nodes:Tr.aQ (l.map (·.2))<=n
 small:n<=1048576->Tr.smalls (l.map (·.2))
theorem iJ:∀(l:List (Ex×Tr)) (es:List (DataW H)),es.length=l.length->(∀(i:Nat) (a:Ex×Tr) (d:DataW H),l[i]?=some a->es[i]?=some d->oq w a d)->X9 w l (Rows.uptoBulkAll es)
 | [],es,_,_=>by
   refine⟨?_,?_,?_,λ _=>?_⟩
   ·simp[Tr.aO]
   ·simp[Tr.cL]
   ·simp[Tr.aQ]
   ·simp[Tr.smalls]
 | p::l,[],h,_=>by simp at h
 | p::l,d::es,h,hp=>by
   have h0:=hp 0 p d rfl rfl;have hr:=iJ l es Tak λ i a d h1 h2=>hp (i+1) a d Ta5 (by simpa using h2)
   simp only[Rows.uptoBulkAll];refine⟨?_,?_,?_,λ hn=>?_⟩
   ·simp only[map_cons];unfold Tr.aO;exact⟨_,_,rfl,h0.at_,hr.at_⟩
   ·simp only[map_cons];unfold Tr.cL;exact⟨h0.ok,hr.ok⟩
   ·simp only[map_cons];unfold Tr.aQ;have:=h0.nodes;have:=hr.nodes;omega
   ·simp only[map_cons];unfold Tr.smalls;exact⟨h0.small WC,hr.small WC⟩
theorem lB {A:Option Addr} {l:List (Ex×Tr)}(cf:l=[]\/∃b off,A=some ⟨b,off,none⟩/\b < w.heap.size/\∀i x j u,l[i]?=some x->(fg x.1)[j]?=some u->w.cell? ⟨b,off+i*7+j,none⟩=some u):Yj w (Old w) A (l.map (·.1)):=by
 rcases cf with cf |⟨b,off,rfl,hb,cf⟩
 ·exact .inl (by simp[cf])
 ·refine .inr ⟨b,off,rfl,hb,λ i y hy=>?_⟩;obtain⟨p,hp,rfl⟩:∃p,l[i]?=some p/\p.1=y:=by simpa [getElem?_map] using hy
  have k:=λ j u hu=>cf i p j u hp hu
  exact⟨k 0 _ rfl,k 1 _ rfl,k 2 _ rfl,k 3 _ rfl,k 4 _ rfl,k 5 _ rfl,k 6 _ rfl⟩
theorem ot:∀(fuel:Nat) (cs:List Value) (x:DataW H×List MemPlace),DataW.trod enc Tryz.prog w base spare held fuel 46 cs=some x->Light 46 x.1->∃p:Ex×Tr,cs=fg p.1/\oq w p x.1:=by
 intro fuel
 induction fuel using Nat.strongRecOn with
 | _ fuel ih=>
   intro cs x h hw;obtain⟨xs,n,hn,hx,hl,hlen,hf⟩:=DataW.trod_struct Tryz.underlying46 h;rw[iz] at hl;subst hx
   match xs,hlen with
   | [y0,y1,y2,y3,y4],_=>
   match cs,hl with
   | [c0,c1,c2,c3,c4,c5,c6],_=>
     have t0:DataW.trod enc Tryz.prog w base spare held n 5 (([c0,c1,c2,c3,c4,c5,c6].drop 0).take (Tryz.prog.cellsOf 5))=some y0:=(hf 0 _ rfl);have t1:DataW.trod enc Tryz.prog w base spare held n 44 (([c0,c1,c2,c3,c4,c5,c6].drop 1).take (Tryz.prog.cellsOf 44))=some y1:=(hf 1 _ rfl);have t2:DataW.trod enc Tryz.prog w base spare held n 9 (([c0,c1,c2,c3,c4,c5,c6].drop 4).take (Tryz.prog.cellsOf 9))=some y2:=(hf 2 _ rfl);have t3:DataW.trod enc Tryz.prog w base spare held n 2 (([c0,c1,c2,c3,c4,c5,c6].drop 5).take (Tryz.prog.cellsOf 2))=some y3:=(hf 3 _ rfl);have t4:DataW.trod enc Tryz.prog w base spare held n 23 (([c0,c1,c2,c3,c4,c5,c6].drop 6).take (Tryz.prog.cellsOf 23))=some y4:=(hf 4 _ rfl);rw[vw] at t0;rw[mI] at t1;rw[gD] at t2;rw[si] at t3;rw[yC] at t4;simp only[drop_succ_cons,drop_zero,take_succ_cons,take_zero] at t0 t1 t2 t3 t4;obtain⟨n0,q0,_,f0⟩:=DataW.trod_int Tryz.underlying5 t0;obtain⟨a,qa,⟨ha,DR,hk2⟩,has⟩:=X8 t1;obtain⟨s,q2,z2,f2⟩:=DataW.trod_string Tryz.underlying9 t2;obtain⟨n3,q3,_,f3⟩:=DataW.trod_int Tryz.underlying2 t3;have hl4:Light 23 y4.1:=oN (j:=4) (d:=y4.1) Tryz.underlying46 hw rfl rfl;obtain⟨A,l,c,es,q4,hel,jR,hP,hby,cf⟩:=iI (λ p:Ex×Tr=>fg p.1) (λ p d=>oq w p d) 7 Tryz.underlying23 iz WC (λ _=>rfl) (λ m hm cs x h1 h2=>ih m WC cs x h1 h2) t4 hl4;have hT:=iJ l es hel hP;simp at q0 qa q2 q3 q4;obtain⟨rfl,rfl,rfl⟩:=qa;subst q0 q2 q3 q4;rw[Bi] at hby;have Hx:l.length<=1599289640356:=by unfold reachBytes at hby;omega
     have e2:Rows.uptoBulk y2.1=s.size+1:=by rw[z2];exact DJ s
     have eb:Rows.uptoBulk (DataW.agg (List.map (λ x=>x.1) [y0,y1,y2,y3,y4]))=Rows.uptoBulk y0.1+(Rows.uptoBulk y1.1+(Rows.uptoBulk y2.1+(Rows.uptoBulk y3.1+(Rows.uptoBulk y4.1+0))))+1:=by simp only[map_cons,map_nil,Rows.uptoBulk,Rows.uptoBulkAll]
     have hb0:=wT y0.1;refine⟨(⟨n0,a,s,n3,A,l.length,c⟩,.mk n0 a s n3 (l.map (·.2))),rfl,?_,?_,?_,?_⟩
     ·dsimp only;unfold Tr.at_;exact⟨rfl,rfl,rfl,rfl,by simp,l.map (·.1),lB cf,hT.at_⟩
     ·dsimp only;unfold Tr.ok;exact⟨ha,by simpa using Hx,RH f0,Hw f3,⟨DR,hk2⟩,hT.ok⟩
     ·show Tr.nodes _<=Rows.uptoBulk (DataW.agg (List.map (λ x=>x.1) [y0,y1,y2,y3,y4]));rw[eb];unfold Tr.nodes;have:=hT.nodes;omega
     ·intro hsm;have hsm:Rows.uptoBulk (DataW.agg (List.map (λ x=>x.1) [y0,y1,y2,y3,y4]))<=1048576:=hsm;rw[eb] at hsm;unfold Tr.small;exact⟨by omega,by omega,hT.small WC⟩
end
section
variable {H:Type} {enc:TypeId×Value->H} {w:World} {base:Nat} {spare:Nat->Bool} {held:Bool}
theorem oq.more {p:Ex×Tr} {d d':DataW H}(h:oq w p d)(hd:Rows.uptoBulk d<=Rows.uptoBulk d'):oq w p d':=⟨h.at_,h.ok,Nat.le_trans h.nodes hd,λ hs=>h.small WC⟩
theorem Xe {fuel:Nat} {cs:List Value} {x:DataW H×List MemPlace}(h:DataW.trod enc Tryz.prog w base spare held fuel 48 cs=some x)(hw:Light 48 x.1):∃a:(Ex×Tr)×ByteArray,cs=fg a.1.1++ [.string a.2]/\oq w a.1 x.1:=by
 obtain⟨y0,y1,n,hx,hl,t0,t1⟩:=trod_struct2 Tryz.underlying48 h;rw[DG] at hl
 match cs,hl with
 | [c0,c1,c2,c3,c4,c5,c6,c7],_=>rw[iz] at t0;rw[gD] at t1;simp only[drop_succ_cons,drop_zero,take_succ_cons,take_zero] at t0 t1;subst hx;obtain⟨p,q0,hp⟩:=ot n _ _ t0 (oN (j:=0) Tryz.underlying48 hw rfl rfl);obtain⟨s,q1,_,_⟩:=DataW.trod_string Tryz.underlying9 t1;exact ZdQ
theorem Rk {fuel:Nat} {cs:List Value} {x:DataW H×List MemPlace}(h:DataW.trod enc Tryz.prog w base spare held fuel 117 cs=some x)(hw:Light 117 x.1):∃a:(Ex×Tr)×Bool,cs=fg a.1.1++ [.bool a.2]/\oq w a.1 x.1:=by
 obtain⟨y0,y1,n,hx,hl,t0,t1⟩:=trod_struct2 Tryz.underlying117 h;rw[Hf] at hl
 match cs,hl with
 | [c0,c1,c2,c3,c4,c5,c6,c7],_=>rw[iz] at t0;rw[DI] at t1;simp only[drop_succ_cons,drop_zero,take_succ_cons,take_zero] at t0 t1;subst hx;obtain⟨p,q0,hp⟩:=ot n _ _ t0 (oN (j:=0) Tryz.underlying117 hw rfl rfl);obtain⟨s,q1,_⟩:=DataW.trod_bool Tryz.underlying4 t1;exact ZdQ
theorem Y0 {γ:Type}(g:γ->Value) {A:Option Addr} {l:List ((Ex×Tr)×γ)} {n:Nat}(hT:X9 w (l.map (·.1)) n)
  (cf:l=[]\/∃b off,A=some ⟨b,off,none⟩/\b < w.heap.size/\∀i x j u,l[i]?=some x->(fg x.1.1++ [g x.2])[j]?=some u->w.cell? ⟨b,off+i*8+j,none⟩=some u):eP w (l.map λ x=>(x.1.2,g x.2)) A l.length:=by
 refine⟨by simp,l.map λ x=>(x.1.1,g x.2),?_,by simp,?_⟩
 ·rcases cf with rfl |⟨b,off,rfl,hb,hc⟩
  ·exact .inl rfl
  ·refine .inr ⟨b,off,rfl,hb,λ i y hy=>?_⟩;obtain⟨p,hp,rfl⟩:∃p,l[i]?=some p/\(p.1.1,g p.2)=y:=by simpa [getElem?_map] using hy
   have k:=λ j u hu=>hc i p j u hp hu
   exact⟨⟨k 0 _ rfl,k 1 _ rfl,k 2 _ rfl,k 3 _ rfl,k 4 _ rfl,k 5 _ rfl,k 6 _ rfl⟩,k 7 _ rfl⟩
 ·have:=hT.at_;simp only[map_map] at this ⊢;exact this
theorem jM:∀ts:List Tr,ts.length<=Tr.aQ ts
 | []=>Nat.zero_le _
 | t::ts=>by have:=jM ts;unfold Tr.aQ;cases t;unfold Tr.nodes;rw[length_cons];omega
theorem Y2 {fuel:Nat} {cs:List Value} {x:DataW H×List MemPlace}(h:DataW.trod enc Tryz.prog w base spare held fuel 2 cs=some x):∃a:Int,cs=[af a]/\a<=9223372036854775807:=by obtain⟨n,q,_,f⟩:=DataW.trod_int Tryz.underlying2 h;exact⟨n,q,(Hw f).2⟩
structure QyD (w:World) (q:Qy) (L:QL) (n:Nat):Prop where
 at_:nQ w q L
 ok:q.Ok
 nodes:Tr.aQ q.all<=n
 small:n<=1048576->Tr.smalls q.all/\q.bS.size<=1048576/\L.l.n<=1048576
 lim:∀x∈q.lim,x<=9223372036854775807
theorem Rl {fuel:Nat} {cs:List Value} {x:DataW H×List MemPlace}(h:DataW.trod enc Tryz.prog w base spare held fuel 27 cs=some x)(hw:Light 27 x.1):∃q L,cs=(eI q L).toList/\QyD w q L (Rows.uptoBulk x.1):=by
 obtain⟨xs,n,hn,hx,hl,hlen,hf⟩:=DataW.trod_struct Tryz.underlying27 h;rw[Nf] at hl;subst hx
 match xs,hlen with
 | [y0,y1,y2,y3,y4,y5,y6,y7],_=>
 match cs,hl with
 | [c0,c1,c2,c3,c4,c5,c6,c7],_=>
   have t0:DataW.trod enc Tryz.prog w base spare held n 22 (([c0,c1,c2,c3,c4,c5,c6,c7].drop 0).take (Tryz.prog.cellsOf 22))=some y0:=(hf 0 _ rfl);have t1:DataW.trod enc Tryz.prog w base spare held n 9 (([c0,c1,c2,c3,c4,c5,c6,c7].drop 1).take (Tryz.prog.cellsOf 9))=some y1:=(hf 1 _ rfl);have t2:DataW.trod enc Tryz.prog w base spare held n 4 (([c0,c1,c2,c3,c4,c5,c6,c7].drop 2).take (Tryz.prog.cellsOf 4))=some y2:=(hf 2 _ rfl);have t3:DataW.trod enc Tryz.prog w base spare held n 23 (([c0,c1,c2,c3,c4,c5,c6,c7].drop 3).take (Tryz.prog.cellsOf 23))=some y3:=(hf 3 _ rfl);have t4:DataW.trod enc Tryz.prog w base spare held n 23 (([c0,c1,c2,c3,c4,c5,c6,c7].drop 4).take (Tryz.prog.cellsOf 23))=some y4:=(hf 4 _ rfl);have t5:DataW.trod enc Tryz.prog w base spare held n 23 (([c0,c1,c2,c3,c4,c5,c6,c7].drop 5).take (Tryz.prog.cellsOf 23))=some y5:=(hf 5 _ rfl);have t6:DataW.trod enc Tryz.prog w base spare held n 24 (([c0,c1,c2,c3,c4,c5,c6,c7].drop 6).take (Tryz.prog.cellsOf 24))=some y6:=(hf 6 _ rfl);have t7:DataW.trod enc Tryz.prog w base spare held n 25 (([c0,c1,c2,c3,c4,c5,c6,c7].drop 7).take (Tryz.prog.cellsOf 25))=some y7:=(hf 7 _ rfl);rw[Nd] at t0;rw[gD] at t1;rw[DI] at t2;rw[yC] at t3 t4 t5;rw[Ri] at t6;rw[Rj] at t7;simp only[drop_succ_cons,drop_zero,take_succ_cons,take_zero] at t0 t1 t2 t3 t4 t5 t6 t7;have lp:=λ(j:Nat) (f:Field) (d:DataW H)=>oN (j:=j) (f:=f) (d:=d) Tryz.underlying27 hw
   obtain⟨A0,l0,k0,e0,q0,z0,b0,p0,u0,r0⟩:=iI (λ p:(Ex×Tr)×ByteArray=>fg p.1.1++ [.string p.2]) (λ p d=>oq w p.1 d) 8 Tryz.underlying22 DG WC (λ _=>rfl) (λ m hm cs x h1 h2=>Xe h1 h2) t0 (lp 0 _ y0.1 rfl rfl);obtain⟨s1,q1,v1,_⟩:=DataW.trod_string Tryz.underlying9 t1;obtain⟨s2,q2,_⟩:=DataW.trod_bool Tryz.underlying4 t2;obtain⟨A3,l3,k3,e3,q3,z3,b3,p3,u3,r3⟩:=iI (λ p:Ex×Tr=>fg p.1) (λ p d=>oq w p d) 7 Tryz.underlying23 iz WC (λ _=>rfl) (λ m hm cs x h1 h2=>ot m cs x h1 h2) t3 (lp 3 _ y3.1 rfl rfl);obtain⟨A4,l4,k4,e4,q4,z4,b4,p4,u4,r4⟩:=iI (λ p:Ex×Tr=>fg p.1) (λ p d=>oq w p d) 7 Tryz.underlying23 iz WC (λ _=>rfl) (λ m hm cs x h1 h2=>ot m cs x h1 h2) t4 (lp 4 _ y4.1 rfl rfl);obtain⟨A5,l5,k5,e5,q5,z5,b5,p5,u5,r5⟩:=iI (λ p:Ex×Tr=>fg p.1) (λ p d=>oq w p d) 7 Tryz.underlying23 iz WC (λ _=>rfl) (λ m hm cs x h1 h2=>ot m cs x h1 h2) t5 (lp 5 _ y5.1 rfl rfl);obtain⟨A6,l6,k6,e6,q6,z6,b6,p6,u6,r6⟩:=iI (λ p:(Ex×Tr)×Bool=>fg p.1.1++ [.bool p.2]) (λ p d=>oq w p.1 d) 8 Tryz.underlying24 Hf WC (λ _=>rfl) (λ m hm cs x h1 h2=>Rk h1 h2) t6 (lp 6 _ y6.1 rfl rfl);obtain⟨A7,l7,k7,e7,q7,z7,b7,p7,u7,r7⟩:=iI (λ n:Int=> [Value.int .i64 n]) (λ n d=>n<=9223372036854775807) 1 Tryz.underlying25 si WC (λ _=>rfl) (λ m hm cs x h1 h2=>Y2 h1) t7 (lp 7 _ y7.1 rfl rfl)
   have T0:=iJ (l0.map (·.1)) e0 (by rw[z0,length_map]) λ i a d h1 h2=>by
    obtain⟨p,hp,rfl⟩:∃p,l0[i]?=some p/\p.1=a:=by simpa [getElem?_map] using h1
    exact p0 i p d hp h2
   have T3:=iJ l3 e3 z3 p3;have T4:=iJ l4 e4 z4 p4;have T5:=iJ l5 e5 z5 p5
   have T6:=iJ (l6.map (·.1)) e6 (by rw[z6,length_map]) λ i a d h1 h2=>by
    obtain⟨p,hp,rfl⟩:∃p,l6[i]?=some p/\p.1=a:=by simpa [getElem?_map] using h1
    exact p6 i p d hp h2
   have v1':Rows.uptoBulk y1.1=s1.size+1:=by rw[v1];exact DJ s1
   have v7:l7.length<=Rows.uptoBulkAll e7:=by rw[<- z7];exact Ng e7
   have eb:Rows.uptoBulk (DataW.agg (List.map (λ x=>x.1) [y0,y1,y2,y3,y4,y5,y6,y7]))=Rows.uptoBulk y0.1+(Rows.uptoBulk y1.1+(Rows.uptoBulk y2.1+(Rows.uptoBulk y3.1+(Rows.uptoBulk y4.1+(Rows.uptoBulk y5.1+(Rows.uptoBulk y6.1+(Rows.uptoBulk y7.1+0)))))))+1:=by simp only[map_cons,map_nil,Rows.uptoBulk,Rows.uptoBulkAll]
   simp at q0 q1 q2 q3 q4 q5 q6 q7;subst q0 q1 q2 q3 q4 q5 q6 q7;rw[Rh] at u0;rw[Bi] at u3 u4 u5;rw[Xd] at u6;unfold reachBytes at u0 u3 u4 u5 u6;have hi:(l0.map λ x=>(x.1.2,x.2)).map (·.1)=(l0.map (·.1)).map (·.2):=by simp
   have ho:(l6.map λ x=>(x.1.2,x.2)).map (·.1)=(l6.map (·.1)).map (·.2):=by simp
   refine⟨⟨l0.map λ x=>(x.1.2,x.2),s1,s2,l3.map (·.2),l4.map (·.2),l5.map (·.2),l6.map λ x=>(x.1.2,x.2),l7⟩,⟨⟨A0,l0.length,k0⟩,⟨A3,l3.length,k3⟩,⟨A4,l4.length,k4⟩,⟨A5,l5.length,k5⟩,⟨A6,l6.length,k6⟩,⟨A7,l7.length,k7⟩⟩,rfl,?_,?_,?_,?_,?_⟩
   ·refine⟨?_,⟨by simp,_,lB r3,T3.at_⟩,⟨by simp,_,lB r4,T4.at_⟩,⟨by simp,_,lB r5,T5.at_⟩,?_,rfl,?_⟩
    ·have:=Y0 (λ s:ByteArray=>Value.string s) T0 r0;rw[map_map];exact this
    ·have:=Y0 (λ s:Bool=>Value.bool s) T6 r6;rw[map_map];exact this
    ·rcases r7 with r7 |⟨b,off,h1,h2,h3⟩
     ·exact .inl r7
     ·refine .inr ⟨b,off,h1,h2,λ i x hx=>?_⟩;have:=h3 i x 0 _ hx rfl;rw[Nat.mul_one] at this;exact this
   ·refine⟨?_,T3.ok,T4.ok,T5.ok,?_,?_,?_,?_,?_,?_⟩
    ·show Tr.cL ((l0.map λ x=>(x.1.2,x.2)).map (·.1));rw[hi];exact T0.ok
    ·show Tr.cL ((l6.map λ x=>(x.1.2,x.2)).map (·.1));rw[ho];exact T6.ok
    ·show(l0.map λ x=>(x.1.2,x.2)).length<=_;exact ZgM
    ·show(l3.map (·.2)).length<=_;exact ZgM
    ·show(l4.map (·.2)).length<=_;exact ZgM
    ·show(l5.map (·.2)).length<=_;exact ZgM
    ·show(l6.map λ x=>(x.1.2,x.2)).length<=_;exact ZgM
   ·rw[pL];show _<=Rows.uptoBulk (DataW.agg (List.map (λ x=>x.1) [y0,y1,y2,y3,y4,y5,y6,y7]));rw[eb];have n0:=T0.nodes;have n3:=T3.nodes;have n4:=T4.nodes;have n5:=T5.nodes;have n6:=T6.nodes;show Tr.aQ ((l0.map λ x=>(x.1.2,x.2)).map (·.1))+(Tr.aQ (l3.map (·.2))+Tr.aQ (l4.map (·.2))+Tr.aQ (l5.map (·.2)))+Tr.aQ ((l6.map λ x=>(x.1.2,x.2)).map (·.1))<=_;rw[hi,ho];omega
   ·intro hs;replace hs:Rows.uptoBulk (DataW.agg (List.map (λ x=>x.1) [y0,y1,y2,y3,y4,y5,y6,y7]))<=1048576:=hs;rw[eb] at hs;refine⟨?_,by show s1.size<=_;omega,by show l7.length<=_;omega⟩;unfold Qy.all;show Tr.smalls ((l0.map λ x=>(x.1.2,x.2)).map (·.1)++(l3.map (·.2)++l4.map (·.2)++l5.map (·.2))++(l6.map λ x=>(x.1.2,x.2)).map (·.1));rw[hi,ho];exact iq (iq (T0.small WC) (iq (iq (T3.small WC) (T4.small WC)) (T5.small WC))) (T6.small WC)
   ·intro x hx;obtain⟨i,hi,he⟩:=getElem_of_mem hx;have Gl:i < l7.length:=hi;exact p7 i x (e7[i]' WC) (by rw[getElem?_eq_getElem Gl];exact congrArg some he) (getElem?_eq_getElem _)
theorem Xf {fuel:Nat} {cs:List Value} {x:DataW H×List MemPlace}(h:DataW.trod enc Tryz.prog w base spare held fuel 29 cs=some x)(hw:Light 29 x.1):
  ∃A rs c,cs=[.slice A rs.length c]/\RR w w.heap.size A rs/\rs.length<=140737488355328/\∀r∈rs,r.l.length<=140737488355328/\∀a∈r.l,a.Ok/\0<=a.k/\a.k<=255:=by
 obtain⟨A,rs,c,hcs,hP,hb,hR⟩:=tU (λ r:aX=> [.slice r.A r.l.length r.c]) (λ r=>RV w w.heap.size r.A r.l/\r.l.length<=140737488355328/\∀a∈r.l,a.Ok/\0<=a.k/\a.k<=255) 1 Tryz.underlying29 Xb WC (λ _=>rfl)
  (λ m _ cs y hy hl=>by obtain⟨A,l,c,h1,h2⟩:=Ud hy hl;exact⟨⟨A,l,c⟩,h1,h2⟩) h hw
 rw[Xc] at hb;refine⟨A,rs,c,hcs,?_,by unfold reachBytes at hb;omega,λ r hr=>(hP r hr).2⟩;rcases hR with h0 |⟨b,off,h1,h2,h3⟩
 ·exact .inl h0
 ·refine .inr ⟨b,off,h1,h2,λ i r hr=>⟨?_,(hP r (mem_of_getElem? hr)).1⟩⟩;have:=h3 i r 0 _ hr rfl;exact ZeU
end
section
variable {H:Type} {enc:TypeId×Value->H} {W:World} {base:Nat} {v:Value} {d:DataW H} {p:List MemPlace}
theorem Xg (ok:Value.okWide Tryz.prog W .any base 29 v)(k:DataW.Trod enc Tryz.prog W 0 (λ _=>true) true 29 v d p)(hw:Light 29 d):
  ∃A rs c,v=.slice A rs.length c/\RR W W.heap.size A rs/\rs.length<=140737488355328/\∀r∈rs,r.l.length<=140737488355328/\∀a∈r.l,a.Ok/\0<=a.k/\a.k<=255:=by obtain⟨a,len,cap,rfl⟩:=okWide_slice Tryz.underlying29 ok;obtain⟨fuel,hf⟩:=k;obtain⟨A,l,c,q,h⟩:=Xf hf hw;exact ZgC
theorem Rm (ok:Value.okWide Tryz.prog W .any base 27 v)(k:DataW.Trod enc Tryz.prog W 0 (λ _=>true) true 27 v d p)(hw:Light 27 d):∃q L,v=mM q L/\QyD W q L (Rows.uptoBulk d):=by obtain⟨cs,rfl,_⟩:=okWide_struct Tryz.underlying27 ok;obtain⟨fuel,hf⟩:=k;obtain⟨q,L,h,h1⟩:=Rl hf hw;refine⟨q,L,?_,h1⟩;cases cs;simp[Value.cells,eI] at h;rw[h];rfl
end
variable{α:Type}{l:List (Except Int α)}{m:List α}
theorem Nh(h:Ei l=.ok m):m.length<=l.length/\∀x∈m,Except.ok x∈l:=by
 unfold Ei at h;split at h
 ·cases h
 ·injection h with h;subst h;refine⟨length_filterMap_le _ _,λ x hx=>?_⟩;obtain⟨e,he,hx⟩:=List.mem_filterMap.1 hx
  cases e with
  | error e=>cases hx
  | ok y=>injection hx with hx;subst hx;exact he
theorem Ni(c:α->α->Int)(k:α):∀l:List α,(iB c k l).length<=l.length+1
 | []=>by simp[iB]
 | x::l=>by
   have:=Ni c k l;unfold iB;split
   ·rw[length_cons,length_cons];omega
   ·split <;> simp
theorem Hg(c:α->α->Int):∀(l s:List α),(l.foldl (λ ks k=>iB c k ks) s).length<=l.length+s.length
 | [],s=>by simp
 | x::l,s=>by have h1:=Hg c l (iB c x s);have h2:=Ni c x s;rw[foldl_cons,length_cons];omega
theorem Y3(c:α->α->Int)(l:List α):(yH c l).length<=l.length:=by have:=Hg c l [];unfold yH;exact ZeU
variable{aL:List Tr}{cols:List aW}
theorem DL{g:Bool}  :∀ {l:List (Tr×ByteArray)} {s:dy} {ys:List Tr} {hd:List aW} {s':dy},dm g aL cols l s=.ok (ys,hd,s')->hd.length=l.length
 | [],s,ys,hd,s',h=>by unfold dm at h;injection h with h;injection h with _ h1;injection h1 with h1 _;rw[<- h1];rfl
 |(t,nm)::l,s,ys,hd,s',h=>by
  unfold dm at h;split at h
  ·cases h
  split at h
  ·cases h
  rename_i hi;injection h with h;injection h with _ h1;injection h1 with h1 _;rw[<- h1,length_cons,DL hi,length_cons]
variable{ng:Nat}{aJ:List Tr}{gs:List (List Val)}
theorem Rn{l:List (List Val)}(h:jO ng aJ l=.ok gs):gs.length<=l.length+1:=by
 unfold jO at h;by_cases he:cO ((if ng=0 then [[]] else iR ((l.map λ r=>(r.take ng,gS aJ (r.drop ng))).map (·.1))).map λ k=>cM (dR (aJ.map Tr.op) (l.map λ r=>(r.take ng,gS aJ (r.drop ng))) k))≠0
 ·rw[if_pos he] at h;cases h
 ·rw[if_neg he] at h;injection h with h;rw[<- h,length_map];split
  ·simp
  ·have:=Y3 cH ((l.map λ r=>(r.take ng,gS aJ (r.drop ng))).map (·.1));rw[length_map,length_map] at this;unfold iR;omega
variable{q:Qy}{rows left:List (List Val)}
theorem Xh{p:ib}  (h:pS q p cols rows=.ok left):left.length<=rows.length+1/\(p.aK=false->∀r∈left,r∈rows):=by
 unfold pS at h;have hk:(bZ cols q.bT rows).1.length<=rows.length:=length_filter_le _ _;have hkm:∀r∈(bZ cols q.bT rows).1,r∈rows:=λ r hr=>(List.mem_filter.1 hr).1
 split at h
 ·cases h
 split at h
 ·injection h with h;subst h;exact⟨by omega,λ _=>hkm⟩
 rename_i hg;split at h
 ·cases h
 rename_i l hl;have Hx:=(Nh hl).1;rw[length_map] at Hx;split at h
 ·cases h
 rename_i gs pU;split at h
 ·cases h
 injection h with h;subst h;refine⟨?_,λ e=>absurd e hg⟩;have h1:(bZ p.st.aL p.having gs).1.length<=gs.length:=length_filter_le _ _;have h2:=Rn pU;omega
variable{hd:List aW}{la:List (List Val)}
theorem Y4(h:iD q cols rows=.ok (hd,la))(hi:q.items.length<=40)(hc:cols.length<=40)(hr:∀r∈rows,r.length<=40):hd.length<=40/\la.length<=rows.length+1/\∀r∈la,r.length<=40:=by
 unfold iD at h;split at h
 ·cases h
 rename_i p hp;obtain⟨pg,pi,gc,uV,s1,s2,_,_,hit,_,_,phd⟩:=uC hp;have rW:=xY hit;split at h
 ·cases h
 split at h
 ·cases h
 rename_i left aqw;obtain⟨k1,k2⟩:=Xh aqw;split at h
 ·cases h
 rename_i ls hls;obtain⟨m1,m2⟩:=Nh hls;rw[length_map] at m1
 have hrow:∀x∈ls,x.row.length<=40:=λ x hx=>by
  obtain⟨r,hr2,he⟩:=List.mem_map.1 (m2 x hx);unfold bB at he;split at he
  ·cases he
  rename_i l hl;injection he with he;subst he;unfold Sb;dsimp only;split
  ·rename_i hnil;have hq:q.items=[]:=by rw[hnil] at rW;exact List.length_eq_zero_iff.1 (by rw[<- rW];rfl)
   exact hr r (k2 (pg.trans (pi hq)) r hr2)
  ·rw[length_take];omega
 injection h with h;injection h with h1 h2;subst h1 h2;refine⟨?_,?_,?_⟩
 ·rw[phd];split
  ·exact hc
  ·have:=DL hit;omega
 ·rw[length_map];have hs:∀ds,(mO ds ls).length=ls.length:=λ ds=>(oT _ ls).length_eq
  split
  ·rw[hs];omega
  ·rw[length_take,hs];omega
 ·intro r hr2;obtain⟨x,hx,rfl⟩:=List.mem_map.1 hr2;refine hrow x ?_;have hs:∀ds (y:fC),y∈mO ds ls->y∈ls:=λ ds y hy=>(oT _ ls).mem_iff.1 hy
  split at hx
  ·exact hs _ _ hx
  ·exact hs _ _ (mem_of_mem_take hx)
structure rU (w:World) (q:Qy) (L:QL) (CA:Option Addr) (cols:List aW) (RA:Option Addr) (rows:List aX):Prop where
 qy:nQ w q L
 ok:q.Ok
 smalls:Tr.smalls q.all
 nodes:Tr.aQ q.all<=1100000
 bS:q.bS.size<=1048576
 ln:L.l.n<=1048576
 lim:∀n∈q.lim,n<=9223372036854775807
 env:zH w
 cr:RC w w.heap.size CA cols
 cl:cols.length<=140737488355328
 rr:RR w w.heap.size RA rows
 rn:rows.length<=140737488355328
 each:∀r∈rows,r.l.length<=140737488355328/\∀v∈r.l,v.Ok
section
variable {w w':World} {q:Qy} {L:QL} {CA:Option Addr} {cols:List aW} {RA:Option Addr} {rows:List aX}
theorem rU.later (h:rU w q L CA cols RA rows)(hb:aj w w'):rU w' q L CA cols RA rows:=
 ⟨h.qy.later hb,h.ok,h.smalls,h.nodes,h.bS,h.ln,h.lim,h.env.later hb,h.cr.later hb,h.cl,h.rr.later hb,h.rn,h.each⟩
theorem Qy.Ok.all (h:q.Ok):Tr.cL q.all:=by unfold Qy.all;exact mh.2 ⟨mh.2 ⟨h.i,mh.2 ⟨mh.2 ⟨h.w,h.g⟩,h.h⟩⟩,h.o⟩
theorem rU.great (cc rc:Nat)(h:rU w q L CA cols RA rows):ar 9 #[mM q L,.slice CA cols.length cc,.slice RA rows.length rc] w (JJ q cols rows w):=by
 have hn:=h.nodes;rw[pL] at hn;have l1:=jM (q.items.map (·.1));have l2:=jM q.bT;have l3:=jM q.aL;have l4:=jM q.fq;have l5:=jM (q.ord.map (·.1));rw[length_map] at l1 l5;have hf:=h.bS;have hl:=h.ln;have i1:L.i.n=q.items.length:=by have:=h.qy.i.n;simpa using this
 have i2:L.o.n=q.ord.length:=by have:=h.qy.o.n;simpa using this
 have hc:=h.cl;have hr:=h.rn;exact Xa q L CA cc cols RA rc rows w h.qy WC h.ok.all WC ⟨by omega,by omega,by omega⟩ h.rr WC WC λ r hr=>by have:=(h.each r hr).1;omega
theorem rU.cr_ (h:rU w q L CA cols RA rows)(g:GOK q cols rows):CR w CA cols RA rows:=
 ⟨h.env,h.cr,g.cl,h.rr,g.rn,λ r hr=>⟨g.each r hr,(h.each r hr).2⟩⟩
theorem rU.few (h:rU w q L CA cols RA rows)(g:GOK q cols rows):Few q:=by have hn:=MZ h.smalls (by have:=h.nodes;omega) g.size;have:=g.g;have:=g.w;have:=g.h;have:=g.i;have:=g.o;exact⟨by omega,by omega,by omega,by omega,by omega,by omega,h.lim⟩
end
variable{b off:Nat}{x:aW}
theorem zq{w:World}  (h:mG w b off x):w.cell? ⟨b,off,none⟩=some (.string x.name)/\w.cell? ⟨b,off+1,none⟩=some (ag x.t):=h
variable{B:Nat}{A:Option Addr}{k:Nat}
theorem ago{w:World}   {l:List aW}(h:RC w B A l) (hk:k < l.length):∃b off,A=some ⟨b,off,none⟩/\b < B/\mG w b (off+k*2) l[k]:=by exact Zb3
def c6V (b1 o1 b2 o2 n c c2 k:Nat)(x:aW):Nat->World->Value->Prop
 | 0,_,v=>v=.slice (some ⟨b1,o1,none⟩) n c
 | 1,_,v=>v=af k
 | 2,_,v=>v=ba b1 (o1+k*2)
 | 3,_,v=>v=.agg #[.string x.name,ag x.t]
 | 4,_,v=>v=.slice (some ⟨b2,o2,none⟩) n c2
 | 5,_,v=>v=af k
 | 6,_,v=>v=ba b2 (o2+k*2)
 | 7,_,v=>v=.agg #[.string x.name,ag x.t]
 | 8,_,v=>v=.bool false
 | _,_,_=>False
theorem Xi (b1 o1 b2 o2 n c c2 k:Nat)(x:aW):∀i w w' v,c6V b1 o1 b2 o2 n c c2 k x i w v->ai w w'->c6V b1 o1 b2 o2 n c c2 k x i w' v:=by exact ZfY
theorem JK (A:Option Addr)(c:Nat)(A':Option Addr)(c':Nat)(l:List aW)(w:World)(h:RC w w.heap.size A l)(h':RC w w.heap.size A' l)(hn:l.length<=1000000):
  ar 20 #[.slice A l.length c,.slice A' l.length c'] w λ e w'=>e=.returned (.bool true)/\aj w w':=by
 have H:=aa h;have H':=aa h';clear h h';go_enter Tryz.func20,Tryz.ntmps20;go_wp2_with fail;go_loopw [5] (λ Kx wr=>∃i:Nat,i<=l.length/\Kx=af i/\aj w wr) (λ Kx _=>l.length - (intOf Kx).toNat);case atStart=>exact Zgo
 case round=>
  obtain⟨i,hi,rfl,hb⟩:=hrel;by_cases hlt:i < l.length
  ·obtain⟨b1,o1,rfl,l1,q1⟩:=ago (H.ae.later hb) hlt;obtain⟨b2,o2,rfl,l2,q2⟩:=ago (H'.ae.later hb) hlt;have HLT:=aa hlt;have JQ:=aa l1;have AD:=aa l2;have Nn:=aa (zq q1);have yz:=aa (zq q2);generalize l[i]=x at*;clear l1 l2 q1 q2;go_upto_region 6 with fail;refine bA 9 (c6V b1 o1 b2 o2 l.length c c' i x) (Xi _ _ _ _ _ _ _ _ _) Va Va Va ?_ ?_
   ·simp only[take_succ_cons,take_zero];refine⟨Z1,Z1,?_,?_,Z1,Z1,?_,?_,?_,trivial⟩
    ·intro ρ w3 hc hL hr;have h0:_=_:=hr.1;have h1:_=_:=hr.2.1;exact aq (v:=ba b1 (o1+i*2)) (w':=w3) Ta2 ⟨ai.refl _,rfl⟩
    ·intro ρ w3 hc hL hr;have h0:_=_:=hr.1;have c0:=(hL.cell (p:=⟨b1,o1+i*2,none⟩) JQ.ae).trans Nn.ae.1;have c1:=(hL.cell (p:=⟨b1,o1+i*2+1,none⟩) JQ.ae).trans Nn.ae.2;exact ZgW
    ·intro ρ w3 hc hL hr;have h0:_=_:=hr.1;have h1:_=_:=hr.2.1;exact aq (v:=ba b2 (o2+i*2)) (w':=w3) Ta2 ⟨ai.refl _,rfl⟩
    ·intro ρ w3 hc hL hr;have h0:_=_:=hr.1;have c0:=(hL.cell (p:=⟨b2,o2+i*2,none⟩) AD.ae).trans yz.ae.1;have c1:=(hL.cell (p:=⟨b2,o2+i*2+1,none⟩) AD.ae).trans yz.ae.2;exact ZgW
    ·intro ρ w3 hc hL hr;have h0:_=_:=hr.1;have h1:_=_:=hr.2.1;exact aq (w':=w3) Tav ⟨ai.refl _,rfl⟩
   intro W3 hL;simp only[Uab];rintro a0 - a1 - a2 - a3 - a4 - a5 - a6 - a7 - _ rfl;simp only[bD,Act.put,Uac];have Iq:=ai.then hb hL;clear hL;go_wp2_with fail;go_roundw;case rel=>exact⟨i+1,hlt,by go_num,Iq⟩
   case measure=>exact Za0
  ·exact Zdi
theorem zr (hd:List aW)(HA:Option Addr)(hc:Nat)(HA':Option Addr)(hc':Nat)(rs ss:List aX)(RA:Option Addr)(rc:Nat)(RA':Option Addr)(rc':Nat)(cnt:Int)(w:World)(h1:RC w w.heap.size HA hd)(h2:RC w w.heap.size HA' hd)(hn:hd.length<=1000000)(hF:RR w w.heap.size RA rs)(ih:RR w w.heap.size RA' ss)(q1:rs.map (·.l)=ss.map (·.l))(q2:rs.length<=1000)(q3:∀r∈rs,r.l.length<=1000):
  ar 13 #[.agg #[.slice HA hd.length hc,.slice RA rs.length rc,af cnt],.agg #[.slice HA' hd.length hc',.slice RA' ss.length rc',af cnt]] w λ e w'=>e=.returned (.bool true)/\aj w w':=by
 have bb:=ah w (.cells #[.slice HA hd.length hc,.slice RA rs.length rc,af cnt] 33);have HX:=aB.new w 33 #[.slice HA hd.length hc,.slice RA rs.length rc,af cnt];obtain⟨W1,hW1⟩:∃W1,W1=w.alloc (.cells #[.slice HA hd.length hc,.slice RA rs.length rc,af cnt] 33):=⟨_,rfl⟩;have s1:W1.heap.size=w.heap.size+1:=by rw[hW1,World.size_alloc]
 rw[<- hW1] at bb HX;have b2:=ah W1 (.cells #[.slice HA' hd.length hc',.slice RA' ss.length rc',af cnt] 33);have k2:=aB.new W1 33 #[.slice HA' hd.length hc',.slice RA' ss.length rc',af cnt];rw[s1] at k2;have q4:=ai.then bb b2;have HX:=HX.later b2;subst hW1;have H1:=aa (JK HA hc HA' hc' hd _ (h1.later q4) (h2.later q4) hn);have HF:=aa hF;have IH:=aa ih;have Q1:=aa q1;have HFN:=aa q2;have Q3:=aa q3;have Q4:=aa q4;have x0:=HX.cell 0;have hex:=HX.cell 1;have x2:=HX.cell 2;have y0:=k2.cell 0;have hz:=k2.cell 1;have y2:=k2.cell 2;simp only[Uaa] at x0 hex x2 y0 hz y2;have K1:=aa HX;have K2:=aa k2;clear h1 h2 hF ih q1 q2 q3 bb b2 HX k2 q4 s1;go_enter Tryz.func13,Tryz.ntmps13;go_wp2_with fail;clear x0 hex x2 y0 hz y2;refine H1.ae.mono ?_;rintro e w3 ⟨rfl,b3⟩;have hex:=(K1.ae.later b3).cell 1;have hz:=(K2.ae.later b3).cell 1;simp only[Uaa] at hex hz;have hb:=ai.then Q4.ae b3;clear b3 H1;go_wp2_with fail;refine(DD RA rc rs RA' rc' ss w3 (HF.ae.later hb) (IH.ae.later hb) Q1.ae HFN.ae Q3.ae).mono ?_;rintro e w1 ⟨rfl,hB⟩;have hb1:=ai.then hb hB;clear hex hz hB hb;go_wp2_with fail;go_ret;exact⟨rfl,hb1⟩
variable{r:Except Int (List aW×List (List Val))}
theorem iH.lit{w:World} (h:iH r B w v):∃(A1:Option Addr) (n1 c1:Nat) (A2:Option Addr) (n2 c2:Nat) (k e:Int),v=.tuple #[.agg #[.slice A1 n1 c1,.slice A2 n2 c2,af k],af e]:=by exact Ze0
variable{B':Nat}{A1 A2 A1' A2':Option Addr}{n1 c1 n2 c2 n1' c1' n2' c2':Nat}{e k' e':Int}
theorem Y5{w:World}   {k:Int}(h:iH r B w (.tuple #[.agg #[.slice A1 n1 c1,.slice A2 n2 c2,af k],af e]))(h':iH r B' w (.tuple #[.agg #[.slice A1' n1' c1',.slice A2' n2' c2',af k'],af e']))(hl:∀hd la,r=.ok (hd,la)->hd.length<=1000/\la.length<=1000/\∀r∈la,r.length<=1000):
  e'=e/\ar 13 #[.agg #[.slice A1 n1 c1,.slice A2 n2 c2,af k],.agg #[.slice A1' n1' c1',.slice A2' n2' c2',af k']] w λ e w'=>e=.returned (.bool true)/\aj w w':=by
 cases r with
 | error er=>obtain⟨_,e1,e2⟩:=h.X7;obtain⟨_,e3,e4⟩:=h'.X7;injection e2 with _ e2;injection e4 with _ e4;rw[e1,e3];exact⟨e4.trans e2.symm,zr [] none 0 none 0 [] [] none 0 none 0 0 w (.inl rfl) (.inl rfl) Taa (.inl rfl) (.inl rfl) rfl Taa (λ r hr=>by cases hr)⟩
 | ok x=>
   obtain⟨hd,la⟩:=x;obtain⟨HA,hc,OA,oc,out,e1,e2,h1,h2,h3⟩:=h.ok_;obtain⟨HA',hc',OA',oc',out',e3,e4,h4,h5,h6⟩:=h'.ok_;injection e2 with _ e2;injection e4 with _ e4;obtain⟨l1,l2,l3⟩:=hl hd la rfl;have hn:out'.length=out.length:=by have:=congrArg List.length (h6.trans h3.symm);simpa using this
   have TW:out.length=la.length:=by rw[<- h3,length_map]
   rw[e1,e3,hn];have:=zr hd HA hc HA' hc' out out' OA oc OA' oc' out.length w h1 h4 WC h2 h5 (h3.trans h6.symm) WC (λ r hr=>l3 _ (by rw[<- h3];exact List.mem_map.2 ⟨r,hr,rfl⟩));rw[hn] at this;exact⟨e4.trans e2.symm,this⟩
theorem Ro{rows:List aX}(g:GOK q cols rows):∀hd la,iD q cols (rows.map (·.l))=.ok (hd,la)->hd.length<=1000/\la.length<=1000/\∀r∈la,r.length<=1000:=λ hd la hr=>by
 obtain⟨h1,h2,h3⟩:=Y4 hr (by have:=g.i;omega) (by have:=g.cl;omega) (λ r hr=>by
  obtain⟨x,hx,rfl⟩:=List.mem_map.1 hr
  have:=g.each x hx
  omega)
 rw[length_map] at h2;have:=g.rn;exact⟨by omega,by omega,λ r hr=>by have:=h3 r hr;omega⟩
def noQ (q:Qy):Qy:= { q with bT:=[] }
def noL (L:QL):QL:= { L with w:=⟨none,0,0⟩}
variable{L:QL}
theorem aqy{w:World}  (h:nQ w q L):nQ w (noQ q) (noL L):=⟨h.i,⟨rfl,[],.inl rfl,by show Tr.aO w _ [] [];unfold Tr.aO;rfl⟩,h.g,h.h,h.o,h.l⟩
theorem aqz(h:q.Ok):(noQ q).Ok:=⟨h.i,by show Tr.cL [];unfold Tr.cL;trivial,h.g,h.h,h.o,h.ni,Nat.zero_le _,h.ng,h.nh,h.no⟩
theorem ajD(h:Few q):Few (noQ q):=by refine⟨h.g,Nat.zero_le _,h.h,h.i,h.o,?_,h.lim⟩;have:=h.nodes;rw[pL] at this ⊢;simp only[noQ,Tr.aQ] at this ⊢;omega
theorem Y6{p:ib}(hp:dn q cols=.ok p)(hf:rows.any (λ r=> !fJ cols r)=true):iD q cols rows=.error 40:=by unfold iD;rw[hp];dsimp only;rw[if_pos hf]
theorem Xj{p:ib}(hp:dn q cols=.ok p)(hf:rows.any (λ r=> !fJ cols r)=false)(hk:(bZ cols q.bT rows).2≠0):iD q cols rows=.error (bZ cols q.bT rows).2:=by unfold iD;rw[hp];dsimp only;rw[if_neg (by rw[hf];decide)];unfold pS;rw[if_pos hk]
theorem zcw.Kas(h:p:=by clear cJ;go_wp2_with fail;refine XF.ae.mono ?_;rintro e uj ⟨v,rfl,hv,b10⟩;obtain⟨C1,p1,r1,C2,p2,r2,kc,ec,rfl⟩:=hv.lit;have bn:=ah uj (.cells #[.slice C1 p1 r1,.slice C2 p2 r2,af kc] 33);have Mi:=aa (aB.new uj 33 #[.slice C1 p1 r1,.slice C2 p2 r2,af kc]);have Vc:=aa (hv.later bn);replace HB:=aa (ai.then (ai.then HB.ae b10) bn);replace Q3:=aa ((Q3.ae.later b10).later bn);replace K3:=aa ((K3.ae.later b10).later bn);clear hv b10 bn c0 c1 c2 y3 c4 c5 c6 c7 XF hR;go_upto_region 21 with fail;generalize uj.alloc _=W11 at*;generalize uj.heap.size=gc at*;obtain⟨fw,hs1⟩:=Y5 K3.ae Vc.ae (Ro HG.ae);subst fw;have a0:=Q3.ae.cell 0;have a1:=Q3.ae.cell 1;have a2:=Q3.ae.cell 2;have z0:=Mi.ae.cell 0;have z1:=Mi.ae.cell 1;have x2:=Mi.ae.cell 2;simp only[Uaa] at a0 a1 a2 z0 z1 x2;go_wp2_with fail;refine hs1.mono ?_;rintro e w12 ⟨rfl,b12⟩;replace HB:=aa (ai.then HB.ae b12);clear a0 a1 a2 z0 z1 x2 hs1;exact Zbr):p:=h
theorem zd8.KaP(h:p:=by have r0:_=_:=hr.1;rw[pR] at hG;have fw:=hc.func 12;refine bu (f:=12) (args:= #[.slice RA rows.length rc]) (w':=w) (by simp[go_sem,fw,r0,rgU];done) ?_;refine(ajC rc (JW.ae.later hG.low)).mono ?_;rintro e w4 ⟨v,rfl,hv,b4⟩;refine⟨_,rfl,?_⟩;show zn _ _ _ _ _;unfold zn;simp only[jF,Nat.reduceEqDiff,if_true,if_false];exact hG.awg b4 hv):p:=h
theorem zd9.KaP(h:p:=by have r0:_=_:=hr.1;have r1:_=_:=hr.2.1;have r2:σ 3=some (ρ (.tmp 27)):=hr.2.2.1;obtain⟨A,c,rs,MY,Xq,hm⟩:=hG.own pR _ r2;rw[pR] at hG;have fw:=hc.func 11;refine bu (f:=11) (args:= #[mM q L,.slice CA cols.length cc,.slice A rs.length c]) (w':=w) (by simp[go_sem,fw,r0,r1,MY,rgU];done) ?_;refine(Nb c (pM cc (HC.ae.later hG.low) ia.ae My.ae ((JW.ae.later hG.low).same Xq hm))).mono ?_;rintro e w4 ⟨v,rfl,hv,b4⟩;rw[hm] at hv;refine⟨_,rfl,?_⟩;show zn _ _ _ _ _;unfold zn;simp only[jF,Nat.reduceEqDiff,if_true,if_false];exact hG.awh b4 (by rw[r2];rfl) (hv.down hG.low.size)):p:=h
theorem zea.KaP(h:p:=by have r0:σ 4=some (ρ (.tmp 28)):=hr.1;rw[pR] at hG;refine aq (v:=ρ (.tmp 28)) (w':=w) (by simp[go_sem];done) ?_;show zn _ _ _ _ _;unfold zn;simp only[jF,Nat.reduceEqDiff,if_true,if_false];exact hG.awi r0):p:=h
theorem zeb.KaP(h:p:=by have r0:σ 5=some (ρ (.tmp 23)):=hr.1;rw[pR] at hG;have h4:=hG.e5 _ r0;obtain⟨A1,n1,NE,A2,n2,KK,Nm,e,hv⟩:=(hG.run _ h4).tri;rw[hv] at h4;refine aq (v:=.agg #[.slice A1 n1 NE,.slice A2 n2 KK,af Nm]) (w':=w) (by simp[go_sem,hv];done) ?_;show zn _ _ _ _ _;unfold zn;simp only[jF,Nat.reduceEqDiff,if_true,if_false];exact hG.awj h4):p:=h
theorem zec.KaP(h:p:=by have r0:σ 5=some (ρ (.tmp 23)):=hr.1;rw[pR] at hG;have h4:=hG.e5 _ r0;obtain⟨A1,n1,NE,A2,n2,KK,Nm,e,hv⟩:=(hG.run _ h4).tri;rw[hv] at h4;refine aq (v:=e) (w':=w) (by simp[go_sem,hv];done) ?_;show zn _ _ _ _ _;unfold zn;simp only[jF,Nat.reduceEqDiff,if_true,if_false];exact hG.awk h4):p:=h
theorem zed.KaP(h:p:=by rw[pR] at hG;refine aq (v:=aw w.heap.size) (w':=w.alloc (.cells z33 33)) (by simp[go_sem,z33];done) ?_;show zn _ _ _ _ _;unfold zn;simp only[jF,Nat.reduceEqDiff,if_true,if_false];exact hG.vX):p:=h
theorem zee.KaP(h:p:=by have r0:σ 8=some (ρ (.tmp 7)):=hr.1;have r1:σ 6=some (ρ (.tmp 29)):=hr.2.1;rw[pR] at hG;obtain⟨No,Kx,VG⟩:=hG.cell r0;obtain⟨y6,h6⟩:=hG.e6 _ r1;obtain⟨A1,n1,NE,A2,n2,KK,Nm,e,hv⟩:=(hG.run _ h6).tri;injection hv with hv;have hv0:=congrArg (λ a:Array Value=>a[0]?) hv;simp at hv0;rw[hv0] at h6;rw[Kx] at r0;have z0:=VG.cell 0;have z1:=VG.cell 1;have x2:=VG.cell 2;simp only[z33,Uaa] at z0 z1 x2;have f0:=VG.frozen 0;have f1:=VG.frozen 1;have f2:=VG.frozen 2;refine WT (w':=((w.setCell ⟨No,0,none⟩ (.slice A1 n1 NE)).setCell ⟨No,1,none⟩ (.slice A2 n2 KK)).setCell ⟨No,2,none⟩ (af Nm)) (by simp[go_sem,Kx,hv0,z0,z1,x2,f0,f1,f2];done) ?_;show zn _ _ _ _ _;unfold zn;simp only[jF,Nat.reduceEqDiff,if_true,if_false];exact hG.awl r0 h6 _):p:=h
theorem zgf.Kbz(h:p:=by
 go_big_quiet_step ((go_at_call 16;exact aH (Nat.le_refl _) (hc1 _)));repeat (go_big_quiet_step (fail))
 refine wpQuiet_nil ?_;rintro w3 ⟨y2,fP⟩;have hL:=y2.h;have LT:=k2 y2;rw[<- fP] at hL LT;have HW:=aa hL;clear fP y2 hc1 k1 k2 hL;have HT:=aa (show rows.take (k+1)=rows.take k++ [row] by rw[take_add_one,getElem?_eq_getElem hlt,aqE.ae];rfl);obtain⟨is,No⟩:=hpv;dsimp only at*;by_cases Kx:No=0
 ·subst Kx;have qu:=aa (show∀r∈rows.take (k+1),(dz cols q.bT r.l).2=0 from λ r hr=>by
   rw[HT.ae] at hr
   rcases List.mem_append.1 hr with hr | hr
   ·exact HK.ae r hr
   ·rw[List.mem_singleton.1 hr,HHP.ae])
  cases is
  ·have Rx:=HO.ae.later HW.ae;have e9:fK (dz cols q.bT) (rows.take (k+1))=fK (dz cols q.bT) (rows.take k):=by rw[HT.ae,tZ,HHP.ae];simp
   rw[<- e9] at Rx;have NZ:=aa Rx;clear e9 Rx;go_wp2_with fail;go_roundw;case rel=>exact⟨k+1,hlt,by go_num,NZ.ae,qu.ae,ai.then gX.ae HW.ae⟩
   case measure=>exact Za0
  ·have bn:=ah w3 (.cells #[.slice row.A row.l.length row.c] 38);have Qf:=aa (aB.new w3 38 #[.slice row.A row.l.length row.c]);have FU:=aa ((HO.ae.later HW.ae).later bn);have Jr:=aa (ai.then (ai.then gX.ae HW.ae) bn);have zu:(fK (dz cols q.bT) (rows.take k)).length<=100:=Nat.le_trans (length_filter_le _ _) TaH;clear bn;go_wp2_with (first
    |(at_builtin
      refine aT (f:=bX) rfl (.tmp 83) (.tmp 88) 29 rfl _ 24 Tryz.underlying29 nR rfl WC row rfl Taw rfl FU.ae w3.heap.size rfl Qf.ae WC WC Jr.ae.size ?_
      intro v2 w2 o2 g2
      have B3:=aa (bj FU.ae g2 Jr.ae.size)
      have O2:=aa o2
      clear o2 g2))
   go_roundw;case rel=>refine⟨k+1,hlt,by go_num,?_,qu.ae,Jr.ae.trans B3.ae⟩;rw[HT.ae,tZ,HHP.ae];exact O2.ae
   case measure=>exact Za0
 ·have hm:No∈(rows.map (·.l)).map λ r=>(dz cols q.bT r).2:=List.mem_map.2 ⟨row.l,List.mem_map.2 ⟨row,by rw[<- aqE.ae];exact getElem_mem hlt,rfl⟩,by rw[HHP.ae]⟩
  have Lw:=Vs hm Kx;have hv:=K3.ae;rw[Xj HP.ae HFF.ae Lw.1] at hv;obtain⟨_,_,MY⟩:=hv.X7;injection MY with _ MY;have t1:(ea != 0)=true:=by rw[MY];simp;exact Lw.1
  have t2:decide (ea<=No)=true:=by rw[MY];exact decide_eq_true Lw.2
  have t3:(No != 0)=true:=by simpa using Kx
  replace HB:=aa (ai.then (Below.trans HB.ae (gX.ae.mono HB.ae.size)) HW.ae);clear hv MY Lw hm Kx;exact Zbr):p:=h
theorem zhm.KbY(h:p:=by
 subst e1 e2;clear h1 HIW Ga;have c0:=HX.ae.cell 0;have c1:=HX.ae.cell 1;have c2:=HX.ae.cell 2;have y3:=HX.ae.cell 3;have c4:=HX.ae.cell 4;have c5:=HX.ae.cell 5;have c6:=HX.ae.cell 6;have c7:=HX.ae.cell 7;simp only[eI,Uaa] at c0 c1 c2 y3 c4 c5 c6 c7;have YY:=WH q L CA cc cols w9a HC.ae ia.ae (by have:=HG.ae.cl;omega) (pM cc HC.ae ia.ae My.ae JW.ae).pl;unfold mM at YY;go_wp2_with fail;refine YY.mono ?_;rintro e Ly ⟨b3,VG⟩;replace HB:=aa (ai.then HB.ae b3);replace HX:=aa (HX.ae.later b3);replace HC:=aa (HC.ae.later b3);replace JW:=aa (JW.ae.later b3);replace Q3:=aa (Q3.ae.later b3);replace K3:=aa (K3.ae.later b3);clear b3 YY c0 c1 c2 y3 c4 c5 c6 c7
 cases hp:dn q cols with
 | error er=>
   rw[hp] at VG;obtain⟨hne,rfl⟩:=VG;have hR:iD q cols (rows.map (·.l))=.error er:=by unfold iD;rw[hp]
   rw[hR] at K3;obtain⟨_,fw,MY⟩:=K3.ae.X7;have e10:=congrArg (λ a:Array Value=>a[2]?) fw;simp at e10;injection MY with _ MY;subst MY e10;have t1:(ea != 0)=true:=by simp[hne]
   have a2:=Q3.ae.cell 2;simp only[Uaa] at a2;clear K3 fw hp hR hne;exact Zbr
 | ok p=>
   rw[hp] at VG;obtain⟨hv,rfl,how⟩:=VG;obtain⟨HA,hc,rfl,_⟩:=wQ how;clear how;by_cases h40:ea=40
   ·subst h40;exact Zbr
   have hff:(rows.map (·.l)).any (λ r=> !fJ cols r)=false:=by
    cases hf:(rows.map (·.l)).any (λ r=> !fJ cols r)with
    | false=>rfl
    | true=>have hv:=K3.ae;rw[Y6 hp hf] at hv;obtain⟨_,_,MY⟩:=hv.X7;injection MY with _ MY;exact absurd MY h40
   have HP:=aa hp;have HFF:=aa hff;have t40:(ea==40)=false:=by simpa using h40
   clear hp hff h40;obtain⟨ys,hln,CT,hall⟩:=Rc HC.ae.w;have HRE:=aa CT;have xF:=aa hall;have xZ:=aa hln;have hr1:rows.length<=100:=HG.ae.rn;clear CT hall hln;go_wp2_with fail;clear t40;go_loopw [11,12] (λ lv iv wr=>∃k:Nat,k<=rows.length/\iv=af k/\aF bX 38 1 wr Ly.heap.size lv (fK (dz cols q.bT) (rows.take k))/\(∀r∈rows.take k,(dz cols q.bT r.l).2=0)/\aj Ly wr) (λ _ iv _=>rows.length - (intOf iv).toNat);case atStart=>exact⟨0,Nat.zero_le _,rfl,aF.nil,(λ r hr=>by simp at hr),Below.refl _ _⟩
   case round=>
    obtain⟨k,hk,rfl,hO,hK,hb⟩:=hrel;have HO:=aa hO;have HK:=aa hK;have gX:=aa hb;clear hO hK;by_cases hlt:k < rows.length
    ·obtain⟨LE,o1,Uq,l1,c1',r1⟩:=(JW.ae.rr.later hb).at_ hlt;have F5:=HX.ae.later hb;have y3:=F5.cell 3;simp only[eI,Uaa] at y3;have Ns:=F5.lt;have k1:=λ x:Ext wr.heap.size wr=>(x.h.cell (p:=⟨g,3,none⟩) Ns).trans y3
     have k2:=λ x:Ext wr.heap.size wr=>(x.h.cell (p:=⟨LE,o1+k,none⟩) l1).trans c1'
     have hro:=(JW.ae.each _ (getElem_mem hlt));have hc1:=λ x:Ext wr.heap.size wr=>Tx cols CA cc rows[k].l rows[k].A rows[k].c q.bT ys L.w.A L.w.c x.w (by have:=HG.ae.cl;omega) (by have:=hro.1;omega) hro.2 ia.ae.w (xF.ae.later (hb.trans (x.h.mono hb.size))) (by have:=ia.ae.nw;have:=xZ.ae;have:=HC.ae.w.n;omega) (HRE.ae.later (hb.trans (x.h.mono hb.size))) (JW.ae.cr.later (hb.trans (x.h.mono hb.size))) (r1.later x.h)
     rw[<- xZ.ae] at hc1;generalize hrow:rows[k]=row at*;have aqE:=aa hrow;generalize hhp:dz cols q.bT row.l=hpv at*;have HHP:=aa hhp;subst Uq;clear y3 c1' l1 F5 hro hrow hhp r1;go_upto_region 13 with fail;refine aM 13 wr.heap.size wr (Below.refl _ _) Va Va Va Va ?_;open zgf in exact Zec
    ·obtain rfl:k=rows.length:=by omega
     rw[take_length] at HO HK;have TA:(bZ cols q.bT (rows.map (·.l))).2=0:=yZ λ e he=>by obtain⟨l,hl,rfl⟩:=List.mem_map.1 he;obtain⟨r,hr,rfl⟩:=List.mem_map.1 hl;exact HK.ae r hr
     obtain⟨LA,lc,rfl,Xq⟩:=Hc HO.ae λ r hr=>by obtain⟨k,hk,rfl⟩:=getElem_of_mem (List.mem_filter.1 hr).1;obtain⟨_,_,_,_,_,hv⟩:=(JW.ae.rr.later gX.ae).at_ hk;exact hv
     replace HB:=aa (Below.trans HB.ae (gX.ae.mono HB.ae.size));replace HX:=aa (HX.ae.later gX.ae);replace HC:=aa (HC.ae.later gX.ae);replace JW:=aa (JW.ae.later gX.ae);replace Q3:=aa (Q3.ae.later gX.ae);replace K3:=aa (K3.ae.later gX.ae);have aqF:CR wr CA cols LA (fK (dz cols q.bT) rows):=⟨JW.ae.env,JW.ae.cr,JW.ae.cl,Xq,Nat.le_trans (length_filter_le _ _) JW.ae.rn,λ r hr=>JW.ae.each r (List.mem_filter.1 hr).1⟩;have yz:=aa aqF;have Ep:=aa (Vt HP.ae HFF.ae TA);clear TA Xq aqF hb;have c0:=HX.ae.cell 0;have c1:=HX.ae.cell 1;have c2:=HX.ae.cell 2;have y3:=HX.ae.cell 3;have c4:=HX.ae.cell 4;have c5:=HX.ae.cell 5;have c6:=HX.ae.cell 6;have c7:=HX.ae.cell 7;simp only[eI,Uaa] at c0 c1 c2 y3 c4 c5 c6 c7;have hR:iD (noQ q) cols ((fK (dz cols q.bT) rows).map (·.l))=iD q cols (rows.map (·.l)):=by rw[Rb];exact Ep.ae.symm
     have bq:=ah wr (.cells #[.slice L.i.A L.i.n L.i.c,.string q.bS,.bool q.only,az,.slice L.g.A L.g.n L.g.c,.slice L.h.A L.h.n L.h.c,.slice L.o.A L.o.n L.o.c,.slice L.l.A L.l.n L.l.c] 27);have cJ:=aB.new wr 27 #[.slice L.i.A L.i.n L.i.c,.string q.bS,.bool q.only,az,.slice L.g.A L.g.n L.g.c,.slice L.h.A L.h.n L.h.c,.slice L.o.A L.o.n L.o.c,.slice L.l.A L.l.n L.l.c];replace HB:=aa (ai.then HB.ae bq);have hrun:=Nb lc (pM cc (aqy (HC.ae.later bq)) (aqz ia.ae) (ajD My.ae) ((yz.ae.later bq)));replace Q3:=aa (Q3.ae.later bq);replace K3:=aa (K3.ae.later bq);rw[hR] at hrun;unfold mM noQ noL at hrun;have XF:=aa hrun;clear bq hrun;go_upto_region 20 with fail;clear c0 c1 c2 y3 c4 c5 c6 c7;generalize wr.alloc _=W6 at*;generalize wr.heap.size=go at*;open zcw in exact ZaX):p:=h
theorem zin.Kcq(h:p:=by have hb:aB w g 27 (eI q L):=(hG.low.block g HX.ae.lt).trans HX.ae;have c0:=hb.cell 0;have c1:=hb.cell 1;have c2:=hb.cell 2;have y3:=hb.cell 3;have c4:=hb.cell 4;have c5:=hb.cell 5;have c6:=hb.cell 6;have c7:=hb.cell 7;simp only[eI,Uaa] at c0 c1 c2 y3 c4 c5 c6 c7;show(execOp ρ _).run Tryz.prog w=.ok (.value (mM q L)) w;simp[go_sem,r0,c0,c1,c2,y3,c4,c5,c6,c7,mM]):p:=h
theorem zio.Kcq(h:p:=by show(execOp ρ _).run Tryz.prog w=.ok (.value (.slice CA cols.length cc)) w;simp[go_sem,r0]):p:=h
theorem ziq.Kcq(h:p:=by show(execOp ρ _).run Tryz.prog w=.ok (.value (.slice RA rows.length rc)) w;simp[go_sem,r0]):p:=h
theorem zeU.Ka3(h:p:=by
 rw[<- hg] at HX ⊢;clear hg;have HX:=aa (show aB W1 g 27 (eI q L)from HX.ae);have c0:=HX.ae.cell 0;have c1:=HX.ae.cell 1;have c2:=HX.ae.cell 2;have y3:=HX.ae.cell 3;have c4:=HX.ae.cell 4;have c5:=HX.ae.cell 5;have c6:=HX.ae.cell 6;have c7:=HX.ae.cell 7;simp only[eI,Uaa] at c0 c1 c2 y3 c4 c5 c6 c7;go_wp2_with fail;have hgr:=(HIN.ae.later HB.ae).great cc rc;unfold mM at hgr;refine hgr.mono ?_;rintro e W2 ⟨b,rfl,b2,aZ⟩;have aqA:=aa aZ;replace HB:=aa (ai.then HB.ae b2);replace HX:=aa (HX.ae.later b2);clear hgr b2 aZ c0 c1 c2 y3 c4 c5 c6 c7;cases b;case true=>exact Zbr
 have HG:=aa (aqA.ae rfl);clear aqA;go_upto_region 3 with fail;have HIW:=aa (HIN.ae.later HB.ae);have HC:=aa HIW.ae.qy;have ia:=aa HIW.ae.ok;have My:=aa (HIW.ae.few HG.ae);have JW:=aa (HIW.ae.cr_ HG.ae);refine qU _ _ (take_append_drop 10 _).symm (rgU q L CA cc cols RA rc rows) [3,4,5,6,7,8,9] (zn W2 (rows.map (·.l)) (iD q cols (rows.map (·.l)))) (λ σ w h=>rT.later h (Below.refl _ _).drew) (rT.start _ _ _) Va Va Va Va ?_ ?_
 ·simp only[take_succ_cons,take_zero];refine⟨?_,?_,?_,?_,?_,?_,?_,?_,?_,?_,trivial⟩
  ·open zin in exact Zhq
  ·open zio in exact Zhq
  ·open ziq in exact Zhq
  ·open zd8 in exact Zce
  ·open zd9 in exact Zce
  ·open zea in exact Zce
  ·open zeb in exact Zce
  ·open zec in exact Zce
  ·open zed in exact Zce
  ·open zee in exact Zce
 ·intro σ w9a hM hG;simp only[Uab];intro a0 q0 a1 q1 a2 q2 a3 q3 a4 q4 a5 q5 a6 q6 eva q7 a8 q8;unfold zn at hG;replace q4:σ 4=some a4:=q4;replace q5:σ 5=some a5:=q5;replace q6:σ 6=some a6:=q6;replace q7:σ 7=some eva:=q7;replace q8:σ 8=some a8:=q8;obtain⟨v9,h9⟩:=Option.isSome_iff_exists.1 (hM 9 Taa);rw[q4,q5,q6,q7,q8,h9] at hG;obtain⟨ga,csa,ev',e4,e5,e6,e7,e8,Kx,VG,hv,hb⟩:=hG.fin;have Q3:=aa VG;have K3:=aa hv;have Ba:=aa hb;have Ga:=aa Kx;clear q0 q1 q2 q3 q4 q5 q6 q7 q8 hG VG hv hb Kx hM h9;subst e4 e5 e6 e7 e8;simp only[bD,Act.put,Uac];clear σ v9;replace HB:=aa (ai.then HB.ae Ba.ae);replace HX:=aa (HX.ae.later Ba.ae);replace HC:=aa (HC.ae.later Ba.ae);replace JW:=aa (JW.ae.later Ba.ae);obtain⟨A1,n1,NE,A2,n2,KK,ka,ea,h1⟩:=K3.ae.lit;open zhm in exact Zff):p:=h
theorem qwhere_any (q:Qy)(L:QL)(CA:Option Addr)(cc:Nat)(cols:List aW)(RA:Option Addr)(rc:Nat)(rows:List aX)(w:World)(h:rU w q L CA cols RA rows):
  ar 6 #[mM q L,.slice CA cols.length cc,.slice RA rows.length rc] w λ e w'=>e=.returned (.bool true)/\aj w w':=by have HIN:=aa h;have LE:=ah w (.cells (eI q L) 27);have k1:=aB.new w 27 (eI q L);have HB:=aa LE;have HX:=aa k1;clear h LE k1;unfold mM;unfold eI at HB HX;go_enter Tryz.func6,Tryz.ntmps6;open zeU in exact ZcH
def laidL:List (String×DataW Unit):=Rows.queryLimitRow.laid
noncomputable def laidW (os:Os):World:=World.laidAll Tryz.prog os laidL
theorem laid_os (os:Os):(laidW os).os=os:=World.laidAll_os _ _ _
theorem laid_met (os:Os)(args:Array Value):laidMet Tryz.prog laidL ((laidW os).forCall (λ _ _=>0) ⟨#[],args,[]⟩).memory:=
 laidMet_laidAll _ Va Va
variable{W:World}
theorem env_of(h:laidMetH Tryz.prog laidL W):zH W:=by rw[MakeChecks.laidMetH_plain _ _ _ Va] at h;have h3:laidMet Tryz.prog [("internal/strconv.uint64pow10",Lib.tabData .u64 Lib.pow10Tab)] W:=h.tail.tail;exact Lib.tabIs_of_head (g:=0) (t:=261) (e:=195) (n:=20) Va Va Tryz.underlying261 Tryz.underlying195 Va Va h3
section
variable {H:Type} {enc:TypeId×Value->H} {W:World} {base:Nat} {v0 v1 v2:Value} {d0 d1 d2:DataW H} {p0 p1 p2:List MemPlace}
theorem law_in (o0:Value.okWide Tryz.prog W .any base 27 v0)(k0:DataW.Trod enc Tryz.prog W 0 (λ _=>true) true 27 v0 d0 p0)(l0:Light 27 d0)
  (o1:Value.okWide Tryz.prog W .any base 28 v1) (k1:DataW.Trod enc Tryz.prog W 0 (λ _=>true) true 28 v1 d1 p1) (l1:Light 28 d1)
  (o2:Value.okWide Tryz.prog W .any base 29 v2) (k2:DataW.Trod enc Tryz.prog W 0 (λ _=>true) true 29 v2 d2 p2) (l2:Light 29 d2)
  (hb:Rows.uptoBulk d0<=1048576) (hE:zH W):∃q L CA cc cols RA rc rows,v0=mM q L/\v1=.slice CA (List.length cols) cc/\v2=.slice RA (List.length rows) rc/\rU W q L CA cols RA rows:=by obtain⟨q,L,rfl,Q⟩:=Rm o0 k0 l0;obtain⟨CA,cols,cc,rfl,c1,c2,_⟩:=Ue o1 k1 l1;obtain⟨RA,rows,rc,rfl,r1,r2,r3⟩:=Xg o2 k2 l2;obtain⟨s1,s2,s3⟩:=Q.small hb;have:=Q.nodes;exact⟨q,L,CA,cc,cols,RA,rc,rows,rfl,rfl,rfl,Q.at_,Q.ok,s1,by omega,s2,s3,Q.lim,hE,c1,c2,r1,r2,λ r hr=>⟨(r3 r hr).1,λ v hv=>((r3 r hr).2 v hv).1⟩⟩
end
end Go.Proofs.YtndgjggokjickaaGreatDoor
