/- Parts of the proof. -/
import Derived.Test.YtehhdlgjfdnafaaGreatDoorXB34
namespace Go.Proofs.YtehhdlgjfdnafaaGreatDoor
variable{p:Prop}
set_option maxHeartbeats 90000000
set_option maxRecDepth 100000
open Go.Lib (hid)
open Go.ChangeShapes Go.WideShapes Go.ChangeAt Go.RowKit List
set_option linter.unusedVariables false
set_option linter.unusedSimpArgs false
def Names (w:World)(A:Option Addr)(n size at_:Nat):Prop:=∀k,k < n->∃b off sv,A=some ⟨b,off,none⟩/\b < w.heap.size/\w.cell? ⟨b,off+k*size+at_,none⟩=some (.string sv)
variable{α:Type}{E:El α}{w:World}{S:Nat->Prop}{A:Option Addr}{n at_:Nat}{l:List α}
theorem El.names(h:E.lies w S A n l)(hS:∀b,S b->b < w.heap.size)(hf:∀y,∃sv,(E.f y)[at_]?=some (.string sv)):Names w A n E.size at_:=by
 obtain⟨hn,ys,hr,ha⟩:=h;have hl:=ha.len;intro k hk;rcases hr with h |⟨b,off,h1,h2,h3⟩
 ·rw[h] at hl;simp at hl;omega
 ·have hk2:k < ys.length:=by omega
  obtain⟨sv,hsv⟩:=hf ys[k];exact⟨b,off,sv,h1,hS b h2,h3 k _ at_ _ (getElem?_eq_getElem hk2) hsv⟩
theorem Ax:∀l:List Tr,l.length<=Tr.aQ l
 | []=>by simp
 | t::l=>by have:=Ax l;cases t;simp only[Tr.aQ,Tr.nodes,length_cons];omega
variable{m:Nat}
theorem El.UZ{y:Sl}  (h:E.sl w S y l)(hl:l.length<=m):y.n<=m:=by have:=h.1;omega
variable{s:St}
theorem St.lens(h:s.jb m)(hm:m<=1048576):s.exprs.length<=1000000/\s.rows.length<=1048576/\s.aJ.length<=1048576/\s.aS.length<=1048576/\s.query.items.length<=1048576/\s.query.order.length<=1048576/\s.query.aG.length<=1048576:=by
 have h1:=h.nodes;have h2:=Ax s.exprs;have h3:s.exprs.length=s.rows.flatten.length+s.aS.length+s.aR.length+(s.query.items.length+s.query.aR.length+s.query.group.length+s.query.having.length+s.query.order.length):=by simp only[St.exprs,Qu.exprs,length_append,length_map]
 omega
theorem PE(h:s.jb m):Tr.ix s.exprs:=kI _ λ t ht=>by
 unfold St.exprs Qu.exprs at ht;simp only[mem_append,mem_flatten,mem_map] at ht;rcases ht with ((⟨r,hr,ht⟩|⟨x,hx,rfl⟩)| ht)|((((⟨x,hx,rfl⟩| ht)| ht)| ht)|⟨x,hx,rfl⟩)
 ·exact(((h.rows r hr).1) t ht).2
 ·exact(h.aS x hx).2.1
 ·exact(h.aR t ht).2
 ·exact(h.query.items x hx).2.1
 ·exact(h.query.aR t ht).2
 ·exact(h.query.group t ht).2
 ·exact(h.query.having t ht).2
 ·exact(h.query.order x hx).2
variable{y:fl}
theorem zbw.Kal(h:p:=by
 have t7:decide ((5000:Int)<(y.name.size:Int)+(y.time.size:Int)+(y.space.size:Int)+(y.cr.size:Int)+(y.query.aK.size:Int)+(y.aK.s.size:Int)+(y.cP.s.size:Int))=false:=decide_eq_false Taa;clear h0 h1 h2 h3 h4 h5 h6;go_upto_region 3 with fail;clear t1 t2 t3 t4 t5 t6 t7 wj AV CT x1 x3 x5 QE x8 Wa JL;go_wp2_with fail;go_loopw [3] (λ iv wA=>∃k:Nat,k<=y.aJ.n/\iv=.int .i64 k/\wA=W1) (λ iv _=>y.aJ.n - (intOf iv).toNat);case atStart=>exact⟨0,Nat.zero_le _,rfl,rfl⟩
 case round=>
  obtain⟨k,hk,rfl,rfl⟩:=hrel;by_cases hlt:k < y.aJ.n
  ·obtain⟨b,off,Ov,hA,nj,fW⟩:=NC.out k hlt;have hc2:=(jB.out.cell (p:=⟨b,off+k*2+0,none⟩) nj).trans fW;rw[Nat.add_zero] at hc2;rw[hA] at x2;exact Za4
  ·go_wp2_with fail;clear x2;generalize wr=wz1 at*;go_loopw [4] (λ iv wB=>∃k:Nat,k<=y.aS.n/\iv=.int .i64 k/\wB=wz1) (λ iv _=>y.aS.n - (intOf iv).toNat);case atStart=>exact⟨0,Nat.zero_le _,rfl,rfl⟩
   case round=>
    obtain⟨k,hk,rfl,rfl⟩:=hrel;by_cases hlt:k < y.aS.n
    ·obtain⟨b,off,Ov,hA,nj,fW⟩:=NS.out k hlt;have hc2:=(jB.out.cell (p:=⟨b,off+k*8+0,none⟩) nj).trans fW;rw[Nat.add_zero] at hc2;rw[hA] at AW;exact Za4
    ·go_wp2_with fail;clear AW;generalize wr=wz2 at*;go_loopw [5] (λ iv wC=>∃k:Nat,k<=y.query.items.n/\iv=.int .i64 k/\wC=wz2) (λ iv _=>y.query.items.n - (intOf iv).toNat);case atStart=>exact⟨0,Nat.zero_le _,rfl,rfl⟩
     case round=>
      obtain⟨k,hk,rfl,rfl⟩:=hrel;by_cases hlt:k < y.query.items.n
      ·obtain⟨b,off,Ov,hA,nj,fW⟩:=NI.out k hlt;have hc2:=(jB.out.cell (p:=⟨b,off+k*8+7,none⟩) nj).trans fW;rw[hA] at x7;exact Za4
      ·go_wp2_with (first
        |(refine wpList_load_row rfl 34 (.tmp 1) rfl gs rfl 34 (bD y).toArray (0,0) _ FP.out Tryz.underlying34 rfl (kg y) ?_))
       refine(LF.out _ jB.out).mono ?_;rintro e w3 ⟨sl,rfl,e3,tt,b3⟩;have TT:=hid tt;have tq:=hid (Below.trans jB.out (b3.mono jB.out.size));clear e3 tt b3 x7;go_wp2_with fail;refine(UO (λ b hb=>hb.2) TT.out E2.out (Nat.le_trans HLE.out Tab) w3 (Below.refl _ _)).mono ?_;rintro e w4 ⟨rfl,b4⟩;have hb4:=Below.trans tq.out (b4.mono tq.out.size);clear b4;go_wp2_with fail;go_ret;exact⟨_,rfl,hb4⟩):p:=h
theorem zaS.Kae(h:p:=by open zbw in exact Zar):p:=h
theorem Va(s:St)(S:Nat->Prop)(m:Nat)(hS:∀b,S b->b < w.heap.size)(hat:s.at_ w S y)(hf:s.jb m)(hm:m<=1048576)(hn:y.aJ.n<=4611686018427387904/\y.rows.n<=4611686018427387904/\y.aS.n<=4611686018427387904/\y.query.items.n<=4611686018427387904/\y.query.order.n<=4611686018427387904/\y.query.aG.n<=4611686018427387904)(hs:y.name.size<=1048576/\y.time.size<=1048576/\y.space.size<=1048576/\y.cr.size<=1048576/\y.query.aK.size<=1048576/\y.aK.s.size<=1048576/\y.cP.s.size<=1048576)(h0:¬200 < y.aJ.n)(h1:¬200 < y.rows.n)(h2:¬200 < y.aS.n)(h3:¬200 < y.query.items.n)(h4:¬200 < y.query.order.n)(h5:¬200 < y.query.aG.n)(h6:¬5000 < y.name.size+y.time.size+y.space.size+y.cr.size+y.query.aK.size+y.aK.s.size+y.cP.s.size):Calls Tryz.prog 7 #[ji y] w (na w):=by have LF:=hid (λ W (hW:Below w.heap.size w W)=>Ao W s y S (λ b hb=>Nat.lt_of_lt_of_le (hS b hb) hW.size) (hat.keep λ b hb=>⟨cell_of_heap (hW.block b (hS b hb)),hb⟩) (St.lens hf hm).1 (St.lens hf hm).2.1);have E2:=hid (PE hf);have HLE:=hid (St.lens hf hm).1;have NC:=hid (El.names (at_:=0) hat.aJ hS λ y=>⟨_,rfl⟩);have NS:=hid (El.names (at_:=0) hat.aS hS λ y=>⟨_,rfl⟩);have NI:=hid (El.names (at_:=7) hat.query.items hS λ y=>⟨_,rfl⟩);clear hS hat hf hm;open zaS in exact Zah
theorem Ma(s:St)(S:Nat->Prop)(m:Nat)(hS:∀b,S b->b < w.heap.size)(hat:s.at_ w S y)(hf:s.jb m)(hm:m<=1048576):Calls Tryz.prog 7 #[ji y] w (na w):=by
 obtain⟨l1,l2,l3,l4,l5,l6,l7⟩:=St.lens hf hm;have hn:y.aJ.n<=4611686018427387904/\y.rows.n<=4611686018427387904/\y.aS.n<=4611686018427387904/\y.query.items.n<=4611686018427387904/\y.query.order.n<=4611686018427387904/\y.query.aG.n<=4611686018427387904:=⟨Nat.le_trans (El.UZ hat.aJ l3) Tab,Nat.le_trans (El.UZ hat.rows l2) Tab,Nat.le_trans (El.UZ hat.aS l4) Tab,Nat.le_trans (El.UZ hat.query.items l5) Tab,Nat.le_trans (El.UZ hat.query.order l6) Tab,Nat.le_trans (El.UZ hat.query.aG l7) Tab⟩;have hs:y.name.size<=1048576/\y.time.size<=1048576/\y.space.size<=1048576/\y.cr.size<=1048576/\y.query.aK.size<=1048576/\y.aK.s.size<=1048576/\y.cP.s.size<=1048576:=⟨by rw[hat.name];exact hf.names.1,by rw[hat.time];exact hf.names.2.1,by rw[hat.space];exact hf.names.2.2.1,by rw[hat.cr];exact hf.names.2.2.2,by rw[hat.query.aK];exact hf.query.aK,by rw[hat.aK];exact hf.aK.2,by rw[hat.cP];exact hf.cP.2⟩;by_cases h0:200 < y.aJ.n
 ·exact UQ y w hn hs h0
 by_cases h1:200 < y.rows.n
 ·exact UR y w hn hs h0 h1
 by_cases h2:200 < y.aS.n
 ·exact UT y w hn hs h0 h1 h2
 by_cases h3:200 < y.query.items.n
 ·exact UU y w hn hs h0 h1 h2 h3
 by_cases h4:200 < y.query.order.n
 ·exact UW y w hn hs h0 h1 h2 h3 h4
 by_cases h5:200 < y.query.aG.n
 ·exact UX y w hn hs h0 h1 h2 h3 h4 h5
 by_cases h6:5000 < y.name.size+y.time.size+y.space.size+y.cr.size+y.query.aK.size+y.aK.s.size+y.cP.s.size
 ·exact UY y w hn hs h0 h1 h2 h3 h4 h5 h6
 exact Va s S m hS hat hf hm hn hs h0 h1 h2 h3 h4 h5 h6
end Go.Proofs.YtehhdlgjfdnafaaGreatDoor
