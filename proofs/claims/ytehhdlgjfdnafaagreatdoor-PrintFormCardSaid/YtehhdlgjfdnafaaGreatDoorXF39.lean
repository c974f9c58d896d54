/- Parts of the proof. -/
import Derived.Test.YtehhdlgjfdnafaaGreatDoorXF36
namespace Go.Proofs.YtehhdlgjfdnafaaGreatDoor
variable{p:Prop}
set_option maxHeartbeats 90000000
set_option maxRecDepth 100000
open Go.Lib (hid)
open Go.ChangeShapes Go.WideShapes Go.ChangeAt Go.RowKit Go.Shelf List
set_option linter.unusedVariables false
set_option linter.unusedSimpArgs false
variable{w0:World}{b n m:Nat}{s0:Option aX}{S:Nat->Prop}{s:St}{y:gT}
theorem zam.Kaa(h:p:=by have x0:oQ.cell? ⟨g1,0,none⟩=some (.int .u8 y.kind):=H0.out.q.cell 0;have p0:oQ.cell? ⟨g0,0,none⟩=some (.pointer (some ⟨b,0,none⟩)):=H0.out.p.cell 0;obtain⟨⟨sb,c2⟩,fz,hs2,zr⟩:=H0.out.st.xW;have vp:=hid hs2;have eZ:=hid (H0.out.did.trans zr);clear hs2 zr Zk;go_wp2_with fail;go_end0;exact⟨rfl,vp.out.more Taa,eZ.out⟩):p:=h
theorem aaL(hE:dM w0) (hS:∀b,S b->b < w0.heap.size)  (h:s.at_ w0 S y)(hf:s.mB m)(hm:m<=1048576)(w:World)(hst:eR w0.heap.size b s0 n w)(hw:Below w0.heap.size w0 w)(hk:s.kind=s.kind)(Zk:¬(1<=s.kind/\s.kind<=12))(hn:n+s.cost<=49999000):
  Calls Tryz.prog 19 #[.pointer (some ⟨b,0,none⟩),mK y] w (bk w0.heap.size b (aq s0 (ct s)) (n+s.cost) w):=by
 clear hk;have hno:ct s=none:=by unfold ct;rw[if_neg Taa,if_neg Taa,if_neg Taa,if_neg Taa,if_neg Taa,if_neg Taa,if_neg Taa,if_neg Taa,if_neg Taa]
 rw[hno,jQ];clear hno;unfold St.cost at hn ⊢;have nJ:=h.kind;have t1:(y.kind==1)=false:=by rw[nJ];simp;omega
 have t2:(y.kind==2)=false:=by rw[nJ];simp;omega
 have t3:(y.kind==3)=false:=by rw[nJ];simp;omega
 have t4:(y.kind==4)=false:=by rw[nJ];simp;omega
 have t5:(y.kind==5)=false:=by rw[nJ];simp;omega
 have t6:(y.kind==6)=false:=by rw[nJ];simp;omega
 have t7:(y.kind==7)=false:=by rw[nJ];simp;omega
 have t8:(y.kind==8)=false:=by rw[nJ];simp;omega
 have t9:(y.kind==9)=false:=by rw[nJ];simp;omega
 have t10:(y.kind==10)=false:=by rw[nJ];simp;omega
 have t11:(y.kind==11)=false:=by rw[nJ];simp;omega
 have t12:(y.kind==12)=false:=by rw[nJ];simp;omega
 clear nJ;have hlt:=hst.lt;have hsz:=hst.size;open zam in exact Zaa
theorem UK(hE:dM w0) (hS:∀b,S b->b < w0.heap.size)  (h:s.at_ w0 S y)(hf:s.mB m)(hm:m<=1048576)(w:World)(hst:eR w0.heap.size b s0 n w)(hw:Below w0.heap.size w0 w)(hn:n+s.cost<=49999000):
  Calls Tryz.prog 19 #[.pointer (some ⟨b,0,none⟩),mK y] w (bk w0.heap.size b (aq s0 (ct s)) (n+s.cost) w):=by
 by_cases hk:1<=s.kind/\s.kind<=12
 ·have hc:s.kind=1\/s.kind=2\/s.kind=3\/s.kind=4\/s.kind=5\/s.kind=6\/s.kind=7\/s.kind=8\/s.kind=9\/s.kind=10\/s.kind=11\/s.kind=12:=by omega
  rcases hc with e | e | e | e | e | e | e | e | e | e | e | e
  ·exact UA hE hS h hf hm w hst hw e hn
  ·exact Ze hE hS h hf hm w hst hw e hn
  ·exact aaJ hE hS h hf hm w hst hw e hn
  ·exact Zi hE hS h hf hm w hst hw e hn
  ·exact Pl hE hS h hf hm w hst hw e hn
  ·exact Pm hE hS h hf hm w hst hw e hn
  ·exact Pn hE hS h hf hm w hst hw e hn
  ·exact Po hE hS h hf hm w hst hw e hn
  ·exact UG hE hS h hf hm w hst hw e hn
  ·exact Pq hE hS h hf hm w hst hw e hn
  ·exact Pr hE hS h hf hm w hst hw e hn
  ·exact Pt hE hS h hf hm w hst hw e hn
 ·exact aaL hE hS h hf hm w hst hw rfl hk hn
variable{B:Nat}{o:Option aX}
theorem GF(w:World)(h:eR B b o n w):Calls Tryz.prog 20 #[.pointer (some ⟨b,0,none⟩)] w λ e w'=>e=.returned (.tuple #[strOf (qc o).1,.int .i64 (qc o).2])/\Below B w w':=by
 obtain⟨bad,l,h1,h2,rfl⟩:=h;have jw:=Ty B b bad l w h1;obtain⟨p,v,hb⟩:=h1.cells;have HC:=hid jw;have HB:=hid hb;clear jw h1 h2 hb;go_enter Tryz.func20,Tryz.ntmps20;go_wp2_with fail;refine HC.out.mono ?_;rintro e w1 ⟨rfl,b1,k1⟩;have c2:w1.cell? ⟨b,2,none⟩=some (.bool bad):=by rw[Lib.cell_of_heap (k1.trans HB.out)];rfl
 have B1:=hid b1;clear b1 k1 HC HB;cases bad
 ·by_cases hl:4096 < l.length
  ·have t1:decide ((4096:Int)<(l.length:Int))=true:=decide_eq_true Taa;have t2:decide (4096 < l.length)=true:=decide_eq_true hl;have HR:=hid (show qc (some l)=([],2) by unfold qc;exact if_pos hl);exact ZgP
  ·have t1:decide ((4096:Int)<(l.length:Int))=false:=decide_eq_false Taa;have t2:decide (4096 < l.length)=false:=decide_eq_false hl;have HR:=hid (show qc (some l)=(l,0) by unfold qc;exact if_neg hl);exact ZgP
 ·go_wp2_with fail;go_ret2;exact⟨rfl,B1.out⟩
def UL (x:aX×Int):Value:=.tuple #[strOf x.1,.int .i64 x.2]
theorem Zl(w:World)(hB:B<=w.heap.size):eR B w.heap.size (some []) 0 (w.alloc (.cells #[.pointer none,.slice none 0 0,.bool false] 63)):=
 ⟨false,[],.inl ⟨hB,.slice none 0 0,heap_alloc_new w _,⟨rfl,.inl ⟨rfl,rfl⟩⟩,by simp[Value.ownBlock],λ _=>rfl⟩,Nat.zero_le _,rfl⟩
theorem LJ (o:Option aX):aq (some []) o=o:=by cases o <;> simp[aq]
theorem Zm(hf:s.mB m)(hm:m<=1048576):0+s.cost<=49999000:=by have:=hf.nodes;unfold St.cost;omega
variable{w:World}
theorem DB(hE:dM w) (hS:∀b,S b->b < w.heap.size)  (h:s.at_ w S y) (hf:s.mB m)(hm:m<=1048576):
  Calls Tryz.prog 10 #[mK y] w λ e w'=>e=.returned (UL (zI s))/\Below w.heap.size w w':=by
 obtain⟨cs,hcs⟩:∃cs,cs=(cd y).toArray:=⟨_,rfl⟩;have Ur:(Tryz.prog.info? 34).map (·.size)=some cs.size:=by rw[hcs];exact kD y
 have Zd:∀W b,eR w.heap.size b (some []) 0 W->Below w.heap.size w W->Calls Tryz.prog 19 #[.pointer (some ⟨b,0,none⟩),.agg cs] W (bk w.heap.size b (ct s) (0+s.cost) W):=λ W b h1 h2=>by have:=UK hE hS h hf hm W h1 h2 (Zm hf hm);rw[LJ] at this;rw[hcs];exact this
 have TB:=hid Zd;have HCI:=hid Ur;show Calls Tryz.prog 10 #[.agg (cd y).toArray] w _;rw[<- hcs];clear Zd Ur hcs h hf hm;have b1:=aa w (.cells cs 34);have b2:=aa (w.alloc (.cells cs 34)) (.cells #[.pointer none,.slice none 0 0,.bool false] 63);have hq:=(av.new w 34 cs).alloc (.cells #[.pointer none,.slice none 0 0,.bool false] 63);have hwr:=Zl (B:=w.heap.size) (w.alloc (.cells cs 34)) b1.size;have hB:=af.then b1 b2;rw[World.size_alloc] at hwr;have HQ:=hid hq;have HW:=hid hwr;have HB:=hid hB;clear b1 b2 hq hwr hB;go_enter Tryz.func10,Tryz.ntmps10;go_upto_region 2 with fail
 change Code.wp _ _ _ _ ((w.alloc (.cells cs 34)).alloc (.cells #[.pointer none,.slice none 0 0,.bool false] 63));generalize ((w.alloc _).alloc _)=W at*;have hq:=HQ.out;go_wp2_with (first
  |(refine wpList_load_row rfl 34 (.tmp 1) rfl w.heap.size rfl 34 cs (0,0) _ hq Tryz.underlying34 rfl HCI.out ?_))
 refine(TB.out W _ HW.out HB.out).mono ?_;rintro e w1 ⟨rfl,h1,d1⟩;have H1:=hid h1;have B1:=hid (HB.out.trans d1.below);clear h1 d1 hq HQ HW HB TB;exact ZdE
variable{t:Tr}
theorem zhE.Kcu(h:p:=by refine(TB.out W _ HW.out HB.out).mono ?_;rintro e w1 ⟨rfl,h1,d1⟩;have H1:=hid h1;have B1:=hid (HB.out.trans d1.below);clear h1 d1 HQ HW HB TB x0 x1 x2 x3 x4 x5 x6;exact ZdE):p:=h
theorem Pu(hE:dM w) (hS:∀b,S b->b < w.heap.size)  {y:Ex}(h:t.at_ w S y)(hf:t.fine)(ht:t.thin)(hn:t.nodes<=1000000):
  Calls Tryz.prog 12 #[eb y] w λ e w'=>e=.returned (UL (ajK t))/\Below w.heap.size w w':=by
 have hc:=xd t;have Zd:∀W b,eR w.heap.size b (some []) 0 W->Below w.heap.size w W->Calls Tryz.prog 23 #[.pointer (some ⟨b,0,none⟩),eb y] W (bk w.heap.size b t.whole (0+t.cost) W):=λ W b h1 h2=>by have:=Tr.xf (b:=b) hE hS t y h hf ht hn W (some []) 0 h1 h2 Taa;rw[LJ] at this;exact this
 obtain⟨op,v,name,width,A,k,cp⟩:=y;unfold eb aU at*;have TB:=hid Zd;clear Zd h hf ht hn hc;have b1:=aa w (.cells #[.int .u8 op,.int .u8 v.k,.int .i64 v.n,.string v.s,.string name,.int .i64 width,.slice A k cp] 36);have b2:=aa (w.alloc (.cells #[.int .u8 op,.int .u8 v.k,.int .i64 v.n,.string v.s,.string name,.int .i64 width,.slice A k cp] 36)) (.cells #[.pointer none,.slice none 0 0,.bool false] 63);have hq:=(av.new w 36 #[.int .u8 op,.int .u8 v.k,.int .i64 v.n,.string v.s,.string name,.int .i64 width,.slice A k cp]).alloc (.cells #[.pointer none,.slice none 0 0,.bool false] 63);have hwr:=Zl (B:=w.heap.size) (w.alloc (.cells #[.int .u8 op,.int .u8 v.k,.int .i64 v.n,.string v.s,.string name,.int .i64 width,.slice A k cp] 36)) b1.size;have hB:=af.then b1 b2;rw[World.size_alloc] at hwr;have HQ:=hid hq;have HW:=hid hwr;have HB:=hid hB;clear b1 b2 hq hwr hB;go_enter Tryz.func12,Tryz.ntmps12;go_upto_region 2 with fail;generalize ((w.alloc _).alloc _)=W at*;have x0:=HQ.out.cell 0;have x1:=HQ.out.cell 1;have x2:=HQ.out.cell 2;have x3:=HQ.out.cell 3;have x4:=HQ.out.cell 4;have x5:=HQ.out.cell 5;have x6:=HQ.out.cell 6;open zhE in exact Zge
end Go.Proofs.YtehhdlgjfdnafaaGreatDoor
