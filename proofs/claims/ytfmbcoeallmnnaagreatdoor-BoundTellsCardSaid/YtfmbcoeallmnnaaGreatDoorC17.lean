/- Parts of the proof. -/
import Derived.Test.YtfmbcoeallmnnaaGreatDoorC14
import Derived.Test.YtfmbcoeallmnnaaGreatDoorC16
namespace Go.Proofs.YtfmbcoeallmnnaaGreatDoor
open Go.Lib (hid)
open Go.ChangeShapes Go.WideShapes Go.ChangeAt Go.RowKit
set_option linter.unusedVariables false
set_option linter.unusedSimpArgs false
set_option maxHeartbeats 4000000
set_option maxRecDepth 100000
theorem JA (v:Val)(name:ByteArray)(width:Int)(A:Option Addr)(c:Nat)(aq:ByteArray)(w:World)(a b:Ex)(oa ob:Option Val)(hA:RE w w.heap.size A [a,b])(ha:cW 19 aq w a oa)(po:cW 19 aq w b ob):
  Calls Tryz.prog 19 #[.agg #[.int .u8 16,.int .u8 v.k,.int .i64 v.n,.string v.s,.string name,.int .i64 width,.slice A 2 c],.string aq] w (dv (MF oa ob) w):=by
 obtain⟨⟨ak,an,Gq⟩,MD⟩:∃z,z=iX oa:=⟨_,rfl⟩;obtain⟨⟨bk,bn,bt⟩,ME⟩:∃z,z=iX ob:=⟨_,rfl⟩;obtain⟨ia,QA⟩:∃z,z=oa.isSome:=⟨_,rfl⟩;obtain⟨ib,hib⟩:∃z,z=ob.isSome:=⟨_,rfl⟩;have TU:∀W2,Below w.heap.size w W2→Calls Tryz.prog 19 #[.agg #[.int .u8 a.op,.int .u8 a.v.k,.int .i64 a.v.n,.string a.v.s,.string a.name,.int .i64 a.width,.slice a.A a.n a.c],.string aq] W2 (fun e w'=>e=.returned (.tuple #[.agg #[.int .u8 ak,.int .i64 an,.string Gq],.bool ia])∧Below W2.heap.size W2 w'):=by intro W2 hW2;have h:=ha W2 hW2;unfold dv at h;rw[← MD,← QA] at h;exact h
 have Qt:∀W2,Below w.heap.size w W2→Calls Tryz.prog 19 #[.agg #[.int .u8 b.op,.int .u8 b.v.k,.int .i64 b.v.n,.string b.v.s,.string b.name,.int .i64 b.width,.slice b.A b.n b.c],.string aq] W2 (fun e w'=>e=.returned (.tuple #[.agg #[.int .u8 bk,.int .i64 bn,.string bt],.bool ib])∧Below W2.heap.size W2 w'):=by intro W2 hW2;have h:=po W2 hW2;unfold dv at h;rw[← ME,← hib] at h;exact h
 have Xg:=hid MD;have Xh:=hid ME;have Sr:=hid QA;have VT:=hid hib;clear ha po MD ME QA hib;obtain⟨q0,off,rfl,hq,jk,jl⟩:=hA.two;clear hA;have HX:=ah.new w 34 #[.int .u8 16,.int .u8 v.k,.int .i64 v.n,.string v.s,.string name,.int .i64 width,.slice (some ⟨q0,off,none⟩) 2 c];have hb0:=aa w (.cells #[.int .u8 16,.int .u8 v.k,.int .i64 v.n,.string v.s,.string name,.int .i64 width,.slice (some ⟨q0,off,none⟩) 2 c] 34);have HZ:=(ah.new (w.alloc (.cells #[.int .u8 16,.int .u8 v.k,.int .i64 v.n,.string v.s,.string name,.int .i64 width,.slice (some ⟨q0,off,none⟩) 2 c] 34)) 26 #[.int .u8 0,.int .i64 0,.string ⟨#[]⟩]);have hb1:=aa (w.alloc (.cells #[.int .u8 16,.int .u8 v.k,.int .i64 v.n,.string v.s,.string name,.int .i64 width,.slice (some ⟨q0,off,none⟩) 2 c] 34)) (.cells #[.int .u8 0,.int .i64 0,.string ⟨#[]⟩] 26);replace HX:=HX.later hb1;have hB:=ae.then hb0 hb1
 clear hb0 hb1;rw[World.size_alloc] at HZ;have hz:w.heap.size≤w.heap.size+1:=by omega
 go_enter Tryz.func19,Tryz.ntmps19;go_upto_region 1 with fail
 generalize World.alloc (World.alloc w _) _=W at*;generalize w.heap.size+1=gz at*;obtain⟨gx,hgx⟩:∃gx,gx=w.heap.size:=⟨_,rfl⟩;rw[← hgx] at HX ⊢;clear hgx;have x0:=HX.cell 0;have x1:=HX.cell 1;have x2:=HX.cell 2;have x3:=HX.cell 3;have x4:=HX.cell 4;have x5:=HX.cell 5;have x6:=HX.cell 6;simp only[List.getElem?_toArray,List.getElem?_cons_zero,List.getElem?_cons_succ] at x0 x1 x2 x3 x4 x5 x6;have ea:bp W q0 off a:=jk.keep fun o=>hB.cell (p:=⟨q0,o,none⟩) hq
 have eb:bp W q0 (off+7) b:=jl.keep fun o=>hB.cell (p:=⟨q0,o,none⟩) hq
 have lq:q0 < W.heap.size:=Nat.lt_of_lt_of_le hq hB.size;clear jk jl hq;unfold bp at ea;go_wp2_with fail;refine(TU _ hB).mono ?_;rintro e w5 ⟨rfl,b5⟩;clear ea TU;replace eb:=eb.keep fun o=>b5.cell (p:=⟨q0,o,none⟩) lq
 have yL:q0 < w5.heap.size:=Nat.lt_of_lt_of_le lq b5.size;replace HX:=HX.later b5;replace HZ:=HZ.later b5;replace hB:=ae.then hB b5
 clear b5 x0 x1 x2 x3 x4 x5 x6;have x0:=HX.cell 0;have x1:=HX.cell 1;have x2:=HX.cell 2;have x3:=HX.cell 3;have x4:=HX.cell 4;have x5:=HX.cell 5;have x6:=HX.cell 6;simp only[List.getElem?_toArray,List.getElem?_cons_zero,List.getElem?_cons_succ] at x0 x1 x2 x3 x4 x5 x6;go_upto_region 3 with fail
 have H6:=ah.new w5 26 #[.int .u8 ak,.int .i64 an,.string Gq];have b5:=aa w5 (.cells #[.int .u8 ak,.int .i64 an,.string Gq] 26);have qX:=eb.keep fun o=>b5.cell (p:=⟨q0,o,none⟩) yL
 clear eb;unfold bp at qX;replace HX:=HX.later b5;replace HZ:=HZ.later b5;replace hB:=ae.then hB b5
 clear b5 x0 x1 x2 x3 x4 x5 x6;have x0:=HX.cell 0;have x1:=HX.cell 1;have x2:=HX.cell 2;have x3:=HX.cell 3;have x4:=HX.cell 4;have x5:=HX.cell 5;have x6:=HX.cell 6;simp only[List.getElem?_toArray,List.getElem?_cons_zero,List.getElem?_cons_succ] at x0 x1 x2 x3 x4 x5 x6;generalize w5.alloc _=W5 at*;generalize w5.heap.size=g6 at*;go_wp2_with fail;refine(Qt _ hB).mono ?_;rintro e w6 ⟨rfl,b5⟩;clear qX Qt;replace HX:=HX.later b5;replace HZ:=HZ.later b5;replace H6:=H6.later b5;replace hB:=ae.then hB b5
 clear b5 x0 x1 x2 x3 x4 x5 x6;have x0:=HX.cell 0;have x1:=HX.cell 1;have x2:=HX.cell 2;have x3:=HX.cell 3;have x4:=HX.cell 4;have x5:=HX.cell 5;have x6:=HX.cell 6;simp only[List.getElem?_toArray,List.getElem?_cons_zero,List.getElem?_cons_succ] at x0 x1 x2 x3 x4 x5 x6;go_upto_region 4 with fail
 have H8:=ah.new w6 26 #[.int .u8 bk,.int .i64 bn,.string bt];have b5:=aa w6 (.cells #[.int .u8 bk,.int .i64 bn,.string bt] 26);replace HX:=HX.later b5;replace HZ:=HZ.later b5;replace H6:=H6.later b5;replace hB:=ae.then hB b5
 clear b5 x0 x1 x2 x3 x4 x5 x6;have x0:=HX.cell 0;have x1:=HX.cell 1;have x2:=HX.cell 2;have x3:=HX.cell 3;have x4:=HX.cell 4;have x5:=HX.cell 5;have x6:=HX.cell 6;simp only[List.getElem?_toArray,List.getElem?_cons_zero,List.getElem?_cons_succ] at x0 x1 x2 x3 x4 x5 x6;generalize w6.alloc _=W6 at*;generalize w6.heap.size=g8 at*;have c0:=H6.cell 0;have c1:=H6.cell 1;have c2:=H6.cell 2;have d0:=H8.cell 0;have d1:=H8.cell 1;have d2:=H8.cell 2;simp only[List.getElem?_toArray,List.getElem?_cons_zero,List.getElem?_cons_succ] at c0 c1 c2 d0 d1 d2;cases ia
 ·have ed:=hid (show MF oa ob=ob by
   have:=Sr.out
   cases oa with
   | none=>rfl
   | some x=>cases this)
  have r0:=HZ.cell 0;have r1:=HZ.cell 1;have r2:=HZ.cell 2;have cX:=ah.frozen HZ;have lz:=HZ.lt;simp only[List.getElem?_toArray,List.getElem?_cons_zero,List.getElem?_cons_succ] at r0 r1 r2;clear HZ;go_wp2_with fail;exact bodyPost_ret (v:=.tuple #[.agg #[.int .u8 (bk),.int .i64 (bn),.string (bt)],.bool ib]) (by simp[results,Tryz.results19,go_sem,r0,r1,r2,aL];done) rfl ⟨by rw[ed.out,VT.out,← Xh.out];rfl,((hB.setCell hz _).setCell hz _).setCell hz _⟩
 ·have ed:=hid (show MF oa ob=oa by
   have:=Sr.out
   cases oa with
   | none=>cases this
   | some x=>rfl)
  have r0:=HZ.cell 0;have r1:=HZ.cell 1;have r2:=HZ.cell 2;have cX:=ah.frozen HZ;have lz:=HZ.lt;simp only[List.getElem?_toArray,List.getElem?_cons_zero,List.getElem?_cons_succ] at r0 r1 r2;clear HZ;go_wp2_with fail;exact bodyPost_ret (v:=.tuple #[.agg #[.int .u8 (ak),.int .i64 (an),.string (Gq)],.bool true]) (by simp[results,Tryz.results19,go_sem,r0,r1,r2,aL];done) rfl ⟨by rw[ed.out,← Sr.out,← Xg.out];rfl,((hB.setCell hz _).setCell hz _).setCell hz _⟩
theorem MN (v:Val)(name:ByteArray)(width:Int)(A:Option Addr)(c:Nat)(aq:ByteArray)(w:World)(a b:Ex)(oa ob:Option Val)(hA:RE w w.heap.size A [a,b])(ha:cW 19 aq w a oa)(po:cW 19 aq w b ob):
  Calls Tryz.prog 19 #[.agg #[.int .u8 17,.int .u8 v.k,.int .i64 v.n,.string v.s,.string name,.int .i64 width,.slice A 2 c],.string aq] w (dv (mo oa ob) w):=by
 obtain⟨⟨ak,an,Gq⟩,MD⟩:∃z,z=iX oa:=⟨_,rfl⟩;obtain⟨⟨bk,bn,bt⟩,ME⟩:∃z,z=iX ob:=⟨_,rfl⟩;obtain⟨ia,QA⟩:∃z,z=oa.isSome:=⟨_,rfl⟩;obtain⟨ib,hib⟩:∃z,z=ob.isSome:=⟨_,rfl⟩;have TU:∀W2,Below w.heap.size w W2→Calls Tryz.prog 19 #[.agg #[.int .u8 a.op,.int .u8 a.v.k,.int .i64 a.v.n,.string a.v.s,.string a.name,.int .i64 a.width,.slice a.A a.n a.c],.string aq] W2 (fun e w'=>e=.returned (.tuple #[.agg #[.int .u8 ak,.int .i64 an,.string Gq],.bool ia])∧Below W2.heap.size W2 w'):=by intro W2 hW2;have h:=ha W2 hW2;unfold dv at h;rw[← MD,← QA] at h;exact h
 have Qt:∀W2,Below w.heap.size w W2→Calls Tryz.prog 19 #[.agg #[.int .u8 b.op,.int .u8 b.v.k,.int .i64 b.v.n,.string b.v.s,.string b.name,.int .i64 b.width,.slice b.A b.n b.c],.string aq] W2 (fun e w'=>e=.returned (.tuple #[.agg #[.int .u8 bk,.int .i64 bn,.string bt],.bool ib])∧Below W2.heap.size W2 w'):=by intro W2 hW2;have h:=po W2 hW2;unfold dv at h;rw[← ME,← hib] at h;exact h
 have Xg:=hid MD;have Xh:=hid ME;have Sr:=hid QA;have VT:=hid hib;clear ha po MD ME QA hib;obtain⟨q0,off,rfl,hq,jk,jl⟩:=hA.two;clear hA;have HX:=ah.new w 34 #[.int .u8 17,.int .u8 v.k,.int .i64 v.n,.string v.s,.string name,.int .i64 width,.slice (some ⟨q0,off,none⟩) 2 c];have hb0:=aa w (.cells #[.int .u8 17,.int .u8 v.k,.int .i64 v.n,.string v.s,.string name,.int .i64 width,.slice (some ⟨q0,off,none⟩) 2 c] 34);have HZ:=(ah.new (w.alloc (.cells #[.int .u8 17,.int .u8 v.k,.int .i64 v.n,.string v.s,.string name,.int .i64 width,.slice (some ⟨q0,off,none⟩) 2 c] 34)) 26 #[.int .u8 0,.int .i64 0,.string ⟨#[]⟩]);have hb1:=aa (w.alloc (.cells #[.int .u8 17,.int .u8 v.k,.int .i64 v.n,.string v.s,.string name,.int .i64 width,.slice (some ⟨q0,off,none⟩) 2 c] 34)) (.cells #[.int .u8 0,.int .i64 0,.string ⟨#[]⟩] 26);replace HX:=HX.later hb1;have hB:=ae.then hb0 hb1
 clear hb0 hb1;rw[World.size_alloc] at HZ;have hz:w.heap.size≤w.heap.size+1:=by omega
 go_enter Tryz.func19,Tryz.ntmps19;go_upto_region 1 with fail
 generalize World.alloc (World.alloc w _) _=W at*;generalize w.heap.size+1=gz at*;obtain⟨gx,hgx⟩:∃gx,gx=w.heap.size:=⟨_,rfl⟩;rw[← hgx] at HX ⊢;clear hgx;have x0:=HX.cell 0;have x1:=HX.cell 1;have x2:=HX.cell 2;have x3:=HX.cell 3;have x4:=HX.cell 4;have x5:=HX.cell 5;have x6:=HX.cell 6;simp only[List.getElem?_toArray,List.getElem?_cons_zero,List.getElem?_cons_succ] at x0 x1 x2 x3 x4 x5 x6;have ea:bp W q0 off a:=jk.keep fun o=>hB.cell (p:=⟨q0,o,none⟩) hq
 have eb:bp W q0 (off+7) b:=jl.keep fun o=>hB.cell (p:=⟨q0,o,none⟩) hq
 have lq:q0 < W.heap.size:=Nat.lt_of_lt_of_le hq hB.size;clear jk jl hq;unfold bp at ea;go_wp2_with fail;refine(TU _ hB).mono ?_;rintro e w5 ⟨rfl,b5⟩;clear ea TU;replace eb:=eb.keep fun o=>b5.cell (p:=⟨q0,o,none⟩) lq
 have yL:q0 < w5.heap.size:=Nat.lt_of_lt_of_le lq b5.size;replace HX:=HX.later b5;replace HZ:=HZ.later b5;replace hB:=ae.then hB b5
 clear b5 x0 x1 x2 x3 x4 x5 x6;have x0:=HX.cell 0;have x1:=HX.cell 1;have x2:=HX.cell 2;have x3:=HX.cell 3;have x4:=HX.cell 4;have x5:=HX.cell 5;have x6:=HX.cell 6;simp only[List.getElem?_toArray,List.getElem?_cons_zero,List.getElem?_cons_succ] at x0 x1 x2 x3 x4 x5 x6;go_upto_region 3 with fail
 have H6:=ah.new w5 26 #[.int .u8 ak,.int .i64 an,.string Gq];have b5:=aa w5 (.cells #[.int .u8 ak,.int .i64 an,.string Gq] 26);have qX:=eb.keep fun o=>b5.cell (p:=⟨q0,o,none⟩) yL
 clear eb;unfold bp at qX;replace HX:=HX.later b5;replace HZ:=HZ.later b5;replace hB:=ae.then hB b5
 clear b5 x0 x1 x2 x3 x4 x5 x6;have x0:=HX.cell 0;have x1:=HX.cell 1;have x2:=HX.cell 2;have x3:=HX.cell 3;have x4:=HX.cell 4;have x5:=HX.cell 5;have x6:=HX.cell 6;simp only[List.getElem?_toArray,List.getElem?_cons_zero,List.getElem?_cons_succ] at x0 x1 x2 x3 x4 x5 x6;generalize w5.alloc _=W5 at*;generalize w5.heap.size=g6 at*;go_wp2_with fail;refine(Qt _ hB).mono ?_;rintro e w6 ⟨rfl,b5⟩;clear qX Qt;replace HX:=HX.later b5;replace HZ:=HZ.later b5;replace H6:=H6.later b5;replace hB:=ae.then hB b5
 clear b5 x0 x1 x2 x3 x4 x5 x6;have x0:=HX.cell 0;have x1:=HX.cell 1;have x2:=HX.cell 2;have x3:=HX.cell 3;have x4:=HX.cell 4;have x5:=HX.cell 5;have x6:=HX.cell 6;simp only[List.getElem?_toArray,List.getElem?_cons_zero,List.getElem?_cons_succ] at x0 x1 x2 x3 x4 x5 x6;go_upto_region 4 with fail
 have H8:=ah.new w6 26 #[.int .u8 bk,.int .i64 bn,.string bt];have b5:=aa w6 (.cells #[.int .u8 bk,.int .i64 bn,.string bt] 26);replace HX:=HX.later b5;replace HZ:=HZ.later b5;replace H6:=H6.later b5;replace hB:=ae.then hB b5
 clear b5 x0 x1 x2 x3 x4 x5 x6;have x0:=HX.cell 0;have x1:=HX.cell 1;have x2:=HX.cell 2;have x3:=HX.cell 3;have x4:=HX.cell 4;have x5:=HX.cell 5;have x6:=HX.cell 6;simp only[List.getElem?_toArray,List.getElem?_cons_zero,List.getElem?_cons_succ] at x0 x1 x2 x3 x4 x5 x6;generalize w6.alloc _=W6 at*;generalize w6.heap.size=g8 at*;have c0:=H6.cell 0;have c1:=H6.cell 1;have c2:=H6.cell 2;have d0:=H8.cell 0;have d1:=H8.cell 1;have d2:=H8.cell 2;simp only[List.getElem?_toArray,List.getElem?_cons_zero,List.getElem?_cons_succ] at c0 c1 c2 d0 d1 d2;cases ia
 ·skip
  have ed:=hid (show mo oa ob=none by
   have:=Sr.out
   cases oa with
   | none=>rfl
   | some x=>cases this)
  have r0:=HZ.cell 0;have r1:=HZ.cell 1;have r2:=HZ.cell 2;have cX:=ah.frozen HZ;have lz:=HZ.lt;simp only[List.getElem?_toArray,List.getElem?_cons_zero,List.getElem?_cons_succ] at r0 r1 r2;clear HZ;go_wp2_with fail;exact bodyPost_ret (v:=.tuple #[.agg #[.int .u8 (0),.int .i64 (0),.string (⟨#[]⟩)],.bool false]) (by simp[results,Tryz.results19,go_sem,r0,r1,r2,aL];done) rfl ⟨by rw[ed.out];rfl,((hB.setCell hz _).setCell hz _).setCell hz _⟩
 cases ib
 ·skip
  have ed:=hid (show mo oa ob=none by
   have:=VT.out
   cases ob with
   | none=>cases oa <;> rfl
   | some x=>cases this)
  have r0:=HZ.cell 0;have r1:=HZ.cell 1;have r2:=HZ.cell 2;have cX:=ah.frozen HZ;have lz:=HZ.lt;simp only[List.getElem?_toArray,List.getElem?_cons_zero,List.getElem?_cons_succ] at r0 r1 r2;clear HZ;go_wp2_with fail;exact bodyPost_ret (v:=.tuple #[.agg #[.int .u8 (0),.int .i64 (0),.string (⟨#[]⟩)],.bool false]) (by simp[results,Tryz.results19,go_sem,r0,r1,r2,aL];done) rfl ⟨by rw[ed.out];rfl,((hB.setCell hz _).setCell hz _).setCell hz _⟩
 have nV:=hid (show oa=some ⟨ak,an,Gq⟩ by
  have h1:=Sr.out
  have h2:=Xg.out
  cases oa with
  | none=>cases h1
  | some x=>rw[show(⟨ak,an,Gq⟩:Val)=x from h2])
 have VU:=hid (show ob=some ⟨bk,bn,bt⟩ by
  have h1:=VT.out
  have h2:=Xh.out
  cases ob with
  | none=>cases h1
  | some x=>rw[show(⟨bk,bn,bt⟩:Val)=x from h2])
 cases t1:(ak==bk)
 ·skip
  have ed:=hid (show mo oa ob=none by
   rw[nV.out,VU.out]
   unfold mo
   dsimp only
   rw[if_neg (by simp[jy,t1])])
  have r0:=HZ.cell 0;have r1:=HZ.cell 1;have r2:=HZ.cell 2;have cX:=ah.frozen HZ;have lz:=HZ.lt;simp only[List.getElem?_toArray,List.getElem?_cons_zero,List.getElem?_cons_succ] at r0 r1 r2;clear HZ;go_wp2_with fail;exact bodyPost_ret (v:=.tuple #[.agg #[.int .u8 (0),.int .i64 (0),.string (⟨#[]⟩)],.bool false]) (by simp[results,Tryz.results19,go_sem,r0,r1,r2,aL];done) rfl ⟨by rw[ed.out];rfl,((hB.setCell hz _).setCell hz _).setCell hz _⟩
 cases t2:(an==bn)
 ·skip
  have ed:=hid (show mo oa ob=none by
   rw[nV.out,VU.out]
   unfold mo
   dsimp only
   rw[if_neg (by simp[jy,t1,t2])])
  have r0:=HZ.cell 0;have r1:=HZ.cell 1;have r2:=HZ.cell 2;have cX:=ah.frozen HZ;have lz:=HZ.lt;simp only[List.getElem?_toArray,List.getElem?_cons_zero,List.getElem?_cons_succ] at r0 r1 r2;clear HZ;go_wp2_with fail;exact bodyPost_ret (v:=.tuple #[.agg #[.int .u8 (0),.int .i64 (0),.string (⟨#[]⟩)],.bool false]) (by simp[results,Tryz.results19,go_sem,r0,r1,r2,aL];done) rfl ⟨by rw[ed.out];rfl,((hB.setCell hz _).setCell hz _).setCell hz _⟩
 cases t3:(Gq.toList==bt.toList)
 ·skip
  have ed:=hid (show mo oa ob=none by
   rw[nV.out,VU.out]
   unfold mo
   dsimp only
   rw[if_neg (by simp[jy,t1,t2,t3])])
  have r0:=HZ.cell 0;have r1:=HZ.cell 1;have r2:=HZ.cell 2;have cX:=ah.frozen HZ;have lz:=HZ.lt;simp only[List.getElem?_toArray,List.getElem?_cons_zero,List.getElem?_cons_succ] at r0 r1 r2;clear HZ;go_wp2_with fail;exact bodyPost_ret (v:=.tuple #[.agg #[.int .u8 (0),.int .i64 (0),.string (⟨#[]⟩)],.bool false]) (by simp[results,Tryz.results19,go_sem,r0,r1,r2,aL];done) rfl ⟨by rw[ed.out];rfl,((hB.setCell hz _).setCell hz _).setCell hz _⟩
 have ed:=hid (show mo oa ob=some ⟨ak,an,Gq⟩ by
  rw[nV.out,VU.out]
  unfold mo
  dsimp only
  rw[if_pos (by simp[jy,t1,t2,t3])])
 have r0:=HZ.cell 0;have r1:=HZ.cell 1;have r2:=HZ.cell 2;have cX:=ah.frozen HZ;have lz:=HZ.lt;simp only[List.getElem?_toArray,List.getElem?_cons_zero,List.getElem?_cons_succ] at r0 r1 r2;clear HZ;go_wp2_with fail;exact bodyPost_ret (v:=.tuple #[.agg #[.int .u8 (ak),.int .i64 (an),.string (Gq)],.bool true]) (by simp[results,Tryz.results19,go_sem,r0,r1,r2,aL];done) rfl ⟨by rw[ed.out];rfl,((hB.setCell hz _).setCell hz _).setCell hz _⟩
theorem Gr (op:Int)(v:Val)(name:ByteArray)(width:Int)(A:Option Addr)(n:Nat)(c:Nat)(aq:ByteArray)(w:World)(tA:(op==16)=false)(tB:(op==17)=false)(h10:(op != 10)=true):
  Calls Tryz.prog 19 #[.agg #[.int .u8 op,.int .u8 v.k,.int .i64 v.n,.string v.s,.string name,.int .i64 width,.slice A n c],.string aq] w (dv none w):=by
 have HX:=ah.new w 34 #[.int .u8 op,.int .u8 v.k,.int .i64 v.n,.string v.s,.string name,.int .i64 width,.slice A n c];have hb0:=aa w (.cells #[.int .u8 op,.int .u8 v.k,.int .i64 v.n,.string v.s,.string name,.int .i64 width,.slice A n c] 34);have HZ:=(ah.new (w.alloc (.cells #[.int .u8 op,.int .u8 v.k,.int .i64 v.n,.string v.s,.string name,.int .i64 width,.slice A n c] 34)) 26 #[.int .u8 0,.int .i64 0,.string ⟨#[]⟩]);have hb1:=aa (w.alloc (.cells #[.int .u8 op,.int .u8 v.k,.int .i64 v.n,.string v.s,.string name,.int .i64 width,.slice A n c] 34)) (.cells #[.int .u8 0,.int .i64 0,.string ⟨#[]⟩] 26);replace HX:=HX.later hb1;have hB:=ae.then hb0 hb1
 clear hb0 hb1;rw[World.size_alloc] at HZ;have hz:w.heap.size≤w.heap.size+1:=by omega
 go_enter Tryz.func19,Tryz.ntmps19;go_upto_region 1 with fail
 generalize World.alloc (World.alloc w _) _=W at*;generalize w.heap.size+1=gz at*;obtain⟨gx,hgx⟩:∃gx,gx=w.heap.size:=⟨_,rfl⟩;rw[← hgx] at HX ⊢;clear hgx;have x0:=HX.cell 0;have x1:=HX.cell 1;have x2:=HX.cell 2;have x3:=HX.cell 3;have x4:=HX.cell 4;have x5:=HX.cell 5;have x6:=HX.cell 6;simp only[List.getElem?_toArray,List.getElem?_cons_zero,List.getElem?_cons_succ] at x0 x1 x2 x3 x4 x5 x6;have r0:=HZ.cell 0;have r1:=HZ.cell 1;have r2:=HZ.cell 2;have cX:=ah.frozen HZ;have lz:=HZ.lt;simp only[List.getElem?_toArray,List.getElem?_cons_zero,List.getElem?_cons_succ] at r0 r1 r2;clear HZ;go_wp2_with fail;exact bodyPost_ret (v:=.tuple #[.agg #[.int .u8 (0),.int .i64 (0),.string (⟨#[]⟩)],.bool false]) (by simp[results,Tryz.results19,go_sem,r0,r1,r2,aL];done) rfl ⟨rfl,((hB.setCell hz _).setCell hz _).setCell hz _⟩
theorem MO (v:Val)(name:ByteArray)(width:Int)(A:Option Addr)(c:Nat)(aq:ByteArray)(w:World)(a b:Ex)(hA:RE w w.heap.size A [a,b]):
  Calls Tryz.prog 19 #[.agg #[.int .u8 10,.int .u8 v.k,.int .i64 v.n,.string v.s,.string name,.int .i64 width,.slice A 2 c],.string aq] w (dv (yM aq (bD a) (bD b)) w):=by
 obtain⟨q0,off,rfl,hq,jk,jl⟩:=hA.two;clear hA;have HX:=ah.new w 34 #[.int .u8 10,.int .u8 v.k,.int .i64 v.n,.string v.s,.string name,.int .i64 width,.slice (some ⟨q0,off,none⟩) 2 c];have hb0:=aa w (.cells #[.int .u8 10,.int .u8 v.k,.int .i64 v.n,.string v.s,.string name,.int .i64 width,.slice (some ⟨q0,off,none⟩) 2 c] 34);have HZ:=(ah.new (w.alloc (.cells #[.int .u8 10,.int .u8 v.k,.int .i64 v.n,.string v.s,.string name,.int .i64 width,.slice (some ⟨q0,off,none⟩) 2 c] 34)) 26 #[.int .u8 0,.int .i64 0,.string ⟨#[]⟩]);have hb1:=aa (w.alloc (.cells #[.int .u8 10,.int .u8 v.k,.int .i64 v.n,.string v.s,.string name,.int .i64 width,.slice (some ⟨q0,off,none⟩) 2 c] 34)) (.cells #[.int .u8 0,.int .i64 0,.string ⟨#[]⟩] 26);replace HX:=HX.later hb1;have hB:=ae.then hb0 hb1
 clear hb0 hb1;rw[World.size_alloc] at HZ;have hz:w.heap.size≤w.heap.size+1:=by omega
 go_enter Tryz.func19,Tryz.ntmps19;go_upto_region 1 with fail
 generalize World.alloc (World.alloc w _) _=W at*;generalize w.heap.size+1=gz at*;obtain⟨gx,hgx⟩:∃gx,gx=w.heap.size:=⟨_,rfl⟩;rw[← hgx] at HX ⊢;clear hgx;have x0:=HX.cell 0;have x1:=HX.cell 1;have x2:=HX.cell 2;have x3:=HX.cell 3;have x4:=HX.cell 4;have x5:=HX.cell 5;have x6:=HX.cell 6;simp only[List.getElem?_toArray,List.getElem?_cons_zero,List.getElem?_cons_succ] at x0 x1 x2 x3 x4 x5 x6;go_upto_region 13 with fail
 have lx:=HX.lt;have q6:=fun(w3:World) (hb:Below W.heap.size W w3)=>(hb.cell (p:=⟨gx,6,none⟩) lx).trans x6
 have lq:q0 < W.heap.size:=Nat.lt_of_lt_of_le hq hB.size;have qa:=fun(w3:World) (hb:Below W.heap.size W w3)=>(jk.keep fun o=>hB.cell (p:=⟨q0,o,none⟩) hq).keep fun o=>hb.cell (p:=⟨q0,o,none⟩) lq
 have qb:=fun(w3:World) (hb:Below W.heap.size W w3)=>(jl.keep fun o=>hB.cell (p:=⟨q0,o,none⟩) hq).keep fun o=>hb.cell (p:=⟨q0,o,none⟩) lq
 unfold bp at qa qb;clear jk jl lq lx;refine dR 12 (fun i=>([.pointer (some ⟨gx,6,none⟩),.slice (some ⟨q0,off,none⟩) 2 c,.pointer (some ⟨q0,off,none⟩),.agg #[.int .u8 a.op,.int .u8 a.v.k,.int .i64 a.v.n,.string a.v.s,.string a.name,.int .i64 a.width,.slice a.A a.n a.c],.pointer (some ⟨gx,6,none⟩),.slice (some ⟨q0,off,none⟩) 2 c,.pointer (some ⟨q0,off+7,none⟩),.agg #[.int .u8 b.op,.int .u8 b.v.k,.int .i64 b.v.n,.string b.v.s,.string b.name,.int .i64 b.width,.slice b.A b.n b.c],undef,undef,undef,undef]:List Value).getD i undef) [⟨8,34,#[.int .u8 0,.int .u8 0,.int .i64 0,.string ⟨#[]⟩,.string ⟨#[]⟩,.int .i64 0,.slice none 0 0],10,#[.int .u8 a.op,.int .u8 a.v.k,.int .i64 a.v.n,.string a.v.s,.string a.name,.int .i64 a.width,.slice a.A a.n a.c]⟩,⟨9,34,#[.int .u8 0,.int .u8 0,.int .i64 0,.string ⟨#[]⟩,.string ⟨#[]⟩,.int .i64 0,.slice none 0 0],11,#[.int .u8 b.op,.int .u8 b.v.k,.int .i64 b.v.n,.string b.v.s,.string b.name,.int .i64 b.width,.slice b.A b.n b.c]⟩] [] (by kernel_rfl) (by kernel_rfl) (by kernel_rfl) (by kernel_rfl) (by kernel_rfl) ?_ ?_
 ·simp only[List.take_succ_cons,List.take_zero];refine⟨?_,?_,?_,?_,?_,?_,?_,?_,?_,?_,?_,?_,trivial⟩
  ·refine ag rfl rfl rfl fun ρ w3 hc hb hr=>?_
   have h0:ρ (.tmp 2)=.pointer (some ⟨gx,0,none⟩):=hr.1;show(execOp ρ _).run _ w3=.ok (.value (.pointer (some ⟨gx,6,none⟩))) w3;simp[go_sem,hc.const,h0]
  ·refine ag rfl rfl rfl fun ρ w3 hc hb hr=>?_
   have h0:ρ (.tmp 66)=.pointer (some ⟨gx,6,none⟩):=hr.1 (by kernel_rfl);show(execOp ρ _).run _ w3=.ok (.value (.slice (some ⟨q0,off,none⟩) 2 c)) w3;simp[go_sem,hc.const,h0,q6 w3 hb,qa w3 hb,qb w3 hb]
  ·refine ag rfl rfl rfl fun ρ w3 hc hb hr=>?_
   have h0:ρ (.tmp 67)=.slice (some ⟨q0,off,none⟩) 2 c:=hr.1 (by kernel_rfl);show(execOp ρ _).run _ w3=.ok (.value (.pointer (some ⟨q0,off,none⟩))) w3;simp[go_sem,hc.const,h0]
  ·refine ag rfl rfl rfl fun ρ w3 hc hb hr=>?_
   have h0:ρ (.tmp 68)=.pointer (some ⟨q0,off,none⟩):=hr.1 (by kernel_rfl);show(execOp ρ _).run _ w3=.ok (.value (.agg #[.int .u8 a.op,.int .u8 a.v.k,.int .i64 a.v.n,.string a.v.s,.string a.name,.int .i64 a.width,.slice a.A a.n a.c])) w3;simp[go_sem,hc.const,h0,q6 w3 hb,qa w3 hb,qb w3 hb]
  ·refine ag rfl rfl rfl fun ρ w3 hc hb hr=>?_
   have h0:ρ (.tmp 2)=.pointer (some ⟨gx,0,none⟩):=hr.1;show(execOp ρ _).run _ w3=.ok (.value (.pointer (some ⟨gx,6,none⟩))) w3;simp[go_sem,hc.const,h0]
  ·refine ag rfl rfl rfl fun ρ w3 hc hb hr=>?_
   have h0:ρ (.tmp 70)=.pointer (some ⟨gx,6,none⟩):=hr.1 (by kernel_rfl);show(execOp ρ _).run _ w3=.ok (.value (.slice (some ⟨q0,off,none⟩) 2 c)) w3;simp[go_sem,hc.const,h0,q6 w3 hb,qa w3 hb,qb w3 hb]
  ·refine ag rfl rfl rfl fun ρ w3 hc hb hr=>?_
   have h0:ρ (.tmp 71)=.slice (some ⟨q0,off,none⟩) 2 c:=hr.1 (by kernel_rfl);show(execOp ρ _).run _ w3=.ok (.value (.pointer (some ⟨q0,off+7,none⟩))) w3;simp[go_sem,hc.const,h0]
  ·refine ag rfl rfl rfl fun ρ w3 hc hb hr=>?_
   have h0:ρ (.tmp 72)=.pointer (some ⟨q0,off+7,none⟩):=hr.1 (by kernel_rfl);show(execOp ρ _).run _ w3=.ok (.value (.agg #[.int .u8 b.op,.int .u8 b.v.k,.int .i64 b.v.n,.string b.v.s,.string b.name,.int .i64 b.width,.slice b.A b.n b.c])) w3;simp[go_sem,hc.const,h0,q6 w3 hb,qa w3 hb,qb w3 hb]
  ·exact cY _ rfl rfl fun ρ w3 hc=>by first | rfl | simp[go_sem]
  ·exact cY _ rfl rfl fun ρ w3 hc=>by first | rfl | simp[go_sem]
  ·refine gp _ 34 (.tmp 10) (.tmp 69) rfl rfl rfl rfl (by kernel_rfl) (by kernel_rfl) (by kernel_rfl) (by kernel_rfl) fun ρ w3 gg hc hr=>?_
   have h0:ρ (.tmp 10)=.pointer (some ⟨gg,0,none⟩):=hr.1;have h1:ρ (.tmp 69)=.agg #[.int .u8 a.op,.int .u8 a.v.k,.int .i64 a.v.n,.string a.v.s,.string a.name,.int .i64 a.width,.slice a.A a.n a.c]:=hr.2.1 (by kernel_rfl);exact⟨h0,h1⟩
  ·refine gp _ 34 (.tmp 11) (.tmp 73) rfl rfl rfl rfl (by kernel_rfl) (by kernel_rfl) (by kernel_rfl) (by kernel_rfl) fun ρ w3 gg hc hr=>?_
   have h0:ρ (.tmp 11)=.pointer (some ⟨gg,0,none⟩):=hr.1;have h1:ρ (.tmp 73)=.agg #[.int .u8 b.op,.int .u8 b.v.k,.int .i64 b.v.n,.string b.v.s,.string b.name,.int .i64 b.width,.slice b.A b.n b.c]:=hr.2.1 (by kernel_rfl);exact⟨h0,h1⟩
 intro W2 gg hb2 hbl hne;have jH:ah W2 (gg 8) 34 #[.int .u8 a.op,.int .u8 a.v.k,.int .i64 a.v.n,.string a.v.s,.string a.name,.int .i64 a.width,.slice a.A a.n a.c]:=(hbl _ (.head _)).2;have Zm:W.heap.size≤gg 8:=(hbl _ (.head _)).1;have JB:gg 8≠gg 9:=hne _ (.head _) _ (.tail _ (.head _)) (show(8:Nat)≠9 by decide);have xC:ah W2 (gg 9) 34 #[.int .u8 b.op,.int .u8 b.v.k,.int .i64 b.v.n,.string b.v.s,.string b.name,.int .i64 b.width,.slice b.A b.n b.c]:=(hbl _ (.tail _ (.head _))).2;have Zn:W.heap.size≤gg 9:=(hbl _ (.tail _ (.head _))).1;clear hbl hne;simp only[List.take_succ_cons,List.take_zero,List.drop_succ_cons,List.drop_zero,tR,List.getD_cons_zero,List.getD_cons_succ,List.any_cons,List.any_nil,Act.put,List.setIfInBounds_toArray,List.set_cons_succ,List.set_cons_zero,Nat.reduceBEq,Nat.reduceAdd,Nat.zero_add,Bool.or_false,Bool.false_or,Bool.or_true,Bool.true_or,Bool.or_self,if_true,if_false,ite_true,ite_false,Bool.false_eq_true,beq_self_eq_true];generalize gg 8=Js at*;generalize gg 9=TV at*;clear gg;have Xi:w.heap.size≤Js:=Nat.le_trans hB.size Zm;have Xj:w.heap.size≤TV:=Nat.le_trans hB.size Zn;have lz:=HZ.lt;have Xk:gz≠Js:=by omega
 have Xl:gz≠TV:=by omega
 clear q6 qa qb x0 x1 x2 x3 x4 x5 x6 Zm Zn lz HX;replace HZ:=HZ.later hb2;replace hB:=ae.then hB hb2
 clear hb2;refine wpList_nil ?_;have Yb:=ax xC;unfold bp at Yb;go_wp2_with fail;refine(rT b aq _).mono ?_;rintro e w7 ⟨rfl,b5⟩;replace jH:=jH.later b5;replace xC:=xC.later b5;replace HZ:=HZ.later b5;replace hB:=ae.then hB b5
 clear b5 Yb;cases ib:(b.op==2 && b.name.toList==aq.toList)
 ·skip
  have Yp:=ax jH;have Yq:=ax xC;unfold bp at Yp Yq;go_wp2_with fail;refine(rT a aq _).mono ?_;rintro e w8 ⟨rfl,b5⟩;replace jH:=jH.later b5;replace xC:=xC.later b5;replace HZ:=HZ.later b5;replace hB:=ae.then hB b5
  clear b5 Yp Yq;have Yp:=ax jH;have Yq:=ax xC;unfold bp at Yp Yq;cases ia:(a.op==2 && a.name.toList==aq.toList)
  ·skip
   have ed:=hid (show yM aq (bD a) (bD b)=none by
    have h5:eK aq (bD b)=false:=ib
    have h6:eK aq (bD a)=(a.op==2 && a.name.toList==aq.toList):=rfl
    simp only[yM,bj,h5,h6,ia]
    simp[bD,Tr.op,Tr.v,ez])
   have r0:=HZ.cell 0;have r1:=HZ.cell 1;have r2:=HZ.cell 2;have cX:=ah.frozen HZ;have lz:=HZ.lt;simp only[List.getElem?_toArray,List.getElem?_cons_zero,List.getElem?_cons_succ] at r0 r1 r2;clear HZ;go_wp2_with fail;exact bodyPost_ret (v:=.tuple #[.agg #[.int .u8 (0),.int .i64 (0),.string (⟨#[]⟩)],.bool false]) (by simp[results,Tryz.results19,go_sem,r0,r1,r2,aL];done) rfl ⟨by rw[ed.out];rfl,((hB.setCell hz _).setCell hz _).setCell hz _⟩
  cases t1:(b.op != 1);rotate_left
  ·have t2:¬b.op=1:=by simpa using t1
   have ed:=hid (show yM aq (bD a) (bD b)=none by
    have h5:eK aq (bD b)=false:=ib
    have h6:eK aq (bD a)=(a.op==2 && a.name.toList==aq.toList):=rfl
    simp only[yM,bj,h5,h6,ia]
    simp[bD,Tr.op,Tr.v,ez,t2])
   have r0:=HZ.cell 0;have r1:=HZ.cell 1;have r2:=HZ.cell 2;have cX:=ah.frozen HZ;have lz:=HZ.lt;simp only[List.getElem?_toArray,List.getElem?_cons_zero,List.getElem?_cons_succ] at r0 r1 r2;clear HZ;go_wp2_with fail;exact bodyPost_ret (v:=.tuple #[.agg #[.int .u8 (0),.int .i64 (0),.string (⟨#[]⟩)],.bool false]) (by simp[results,Tryz.results19,go_sem,r0,r1,r2,aL];done) rfl ⟨by rw[ed.out];rfl,((hB.setCell hz _).setCell hz _).setCell hz _⟩
  have t2:b.op=1:=by simpa using t1
  have T2:=hid t2;clear t2;cases t3:(b.v.k==0);rotate_left
  ·have t4:b.v.k=0:=by simpa using t3
   have T4:=hid t4;clear t4;have ed:=hid (show yM aq (bD a) (bD b)=none by
    have h5:eK aq (bD b)=false:=ib
    have h6:eK aq (bD a)=(a.op==2 && a.name.toList==aq.toList):=rfl
    simp only[yM,bj,h5,h6,ia]
    simp[bD,Tr.op,Tr.v,ez,T2.out,T4.out])
   have r0:=HZ.cell 0;have r1:=HZ.cell 1;have r2:=HZ.cell 2;have cX:=ah.frozen HZ;have lz:=HZ.lt;simp only[List.getElem?_toArray,List.getElem?_cons_zero,List.getElem?_cons_succ] at r0 r1 r2;clear HZ;go_wp2_with fail;exact bodyPost_ret (v:=.tuple #[.agg #[.int .u8 (0),.int .i64 (0),.string (⟨#[]⟩)],.bool false]) (by simp[results,Tryz.results19,go_sem,r0,r1,r2,aL];done) rfl ⟨by rw[ed.out];rfl,((hB.setCell hz _).setCell hz _).setCell hz _⟩
  have t4:¬b.v.k=0:=by simpa using t3
  have ed:=hid (show yM aq (bD a) (bD b)=some b.v by
   have h5:eK aq (bD b)=false:=ib
   have h6:eK aq (bD a)=(a.op==2 && a.name.toList==aq.toList):=rfl
   simp only[yM,bj,h5,h6,ia]
   simp[bD,Tr.op,Tr.v,ez,T2.out,t4])
  have r0:=HZ.cell 0;have r1:=HZ.cell 1;have r2:=HZ.cell 2;have cX:=ah.frozen HZ;have lz:=HZ.lt;simp only[List.getElem?_toArray,List.getElem?_cons_zero,List.getElem?_cons_succ] at r0 r1 r2;clear HZ;go_wp2_with fail;exact bodyPost_ret (v:=.tuple #[.agg #[.int .u8 (b.v.k),.int .i64 (b.v.n),.string (b.v.s)],.bool true]) (by simp[results,Tryz.results19,go_sem,r0,r1,r2,aL];done) rfl ⟨by rw[ed.out];rfl,((hB.setCell hz _).setCell hz _).setCell hz _⟩
 ·have Ya:=ax jH;unfold bp at Ya;go_upto_region 16 with fail
  have Xm:=ah.new w7 34 #[.int .u8 a.op,.int .u8 a.v.k,.int .i64 a.v.n,.string a.v.s,.string a.name,.int .i64 a.width,.slice a.A a.n a.c];have b5:=aa w7 (.cells #[.int .u8 a.op,.int .u8 a.v.k,.int .i64 a.v.n,.string a.v.s,.string a.name,.int .i64 a.width,.slice a.A a.n a.c] 34);have n11:TV≠w7.heap.size:=by have:=xC.lt;omega
  have n10:Js≠w7.heap.size:=by have:=jH.lt;omega
  replace jH:=jH.later b5;replace xC:=xC.later b5;replace HZ:=HZ.later b5;replace hB:=ae.then hB b5
  clear b5 Ya;generalize w7.alloc _=W7 at*;generalize w7.heap.size=J1 at*;refine wp_region_lit ?_;refine wpList_load_row rfl 34 (.tmp 11) rfl TV rfl 34 #[.int .u8 b.op,.int .u8 b.v.k,.int .i64 b.v.n,.string b.v.s,.string b.name,.int .i64 b.width,.slice b.A b.n b.c] (0,0) _ xC Tryz.underlying34 rfl dM ?_;refine wpList_store_row rfl 34 (.tmp 10) (.tmp 78) rfl Js #[.int .u8 b.op,.int .u8 b.v.k,.int .i64 b.v.n,.string b.v.s,.string b.name,.int .i64 b.width,.slice b.A b.n b.c] rfl rfl 34 #[.int .u8 a.op,.int .u8 a.v.k,.int .i64 a.v.n,.string a.v.s,.string a.name,.int .i64 a.width,.slice a.A a.n a.c] jH dM rfl (by kernel_rfl) ?_;replace xC:=cG xC (fun e=>JB e.symm) #[.int .u8 b.op,.int .u8 b.v.k,.int .i64 b.v.n,.string b.v.s,.string b.name,.int .i64 b.width,.slice b.A b.n b.c];replace Xm:=cG Xm (fun e=>n10 e.symm) #[.int .u8 b.op,.int .u8 b.v.k,.int .i64 b.v.n,.string b.v.s,.string b.name,.int .i64 b.width,.slice b.A b.n b.c];replace HZ:=cG HZ Xk #[.int .u8 b.op,.int .u8 b.v.k,.int .i64 b.v.n,.string b.v.s,.string b.name,.int .i64 b.width,.slice b.A b.n b.c];replace hB:=dI hB Xi #[.int .u8 b.op,.int .u8 b.v.k,.int .i64 b.v.n,.string b.v.s,.string b.name,.int .i64 b.width,.slice b.A b.n b.c];replace jH:=gO jH #[.int .u8 b.op,.int .u8 b.v.k,.int .i64 b.v.n,.string b.v.s,.string b.name,.int .i64 b.width,.slice b.A b.n b.c];generalize World.setRow _ _ _=W8 at*;refine wpList_nil ?_;simp only[Act.put,List.setIfInBounds_toArray,List.set_cons_succ,List.set_cons_zero];go_upto_region 17 with fail
  refine wp_region_lit ?_;refine wpList_load_row rfl 34 (.tmp 12) rfl J1 rfl 34 #[.int .u8 a.op,.int .u8 a.v.k,.int .i64 a.v.n,.string a.v.s,.string a.name,.int .i64 a.width,.slice a.A a.n a.c] (0,0) _ Xm Tryz.underlying34 rfl dM ?_;refine wpList_store_row rfl 34 (.tmp 11) (.tmp 79) rfl TV #[.int .u8 a.op,.int .u8 a.v.k,.int .i64 a.v.n,.string a.v.s,.string a.name,.int .i64 a.width,.slice a.A a.n a.c] rfl rfl 34 #[.int .u8 b.op,.int .u8 b.v.k,.int .i64 b.v.n,.string b.v.s,.string b.name,.int .i64 b.width,.slice b.A b.n b.c] xC dM rfl (by kernel_rfl) ?_;replace jH:=cG jH JB #[.int .u8 a.op,.int .u8 a.v.k,.int .i64 a.v.n,.string a.v.s,.string a.name,.int .i64 a.width,.slice a.A a.n a.c];replace HZ:=cG HZ Xl #[.int .u8 a.op,.int .u8 a.v.k,.int .i64 a.v.n,.string a.v.s,.string a.name,.int .i64 a.width,.slice a.A a.n a.c];replace hB:=dI hB Xj #[.int .u8 a.op,.int .u8 a.v.k,.int .i64 a.v.n,.string a.v.s,.string a.name,.int .i64 a.width,.slice a.A a.n a.c];replace xC:=gO xC #[.int .u8 a.op,.int .u8 a.v.k,.int .i64 a.v.n,.string a.v.s,.string a.name,.int .i64 a.width,.slice a.A a.n a.c];generalize World.setRow _ _ _=W9 at*;refine wpList_nil ?_;simp only[Act.put,List.setIfInBounds_toArray,List.set_cons_succ,List.set_cons_zero];have Yp:=ax jH;have Yq:=ax xC;unfold bp at Yp Yq;go_wp2_with fail;refine(rT b aq _).mono ?_;rintro e w9 ⟨rfl,b5⟩;replace jH:=jH.later b5;replace xC:=xC.later b5;replace HZ:=HZ.later b5;replace hB:=ae.then hB b5
  clear b5 Yp Yq;have Yp:=ax jH;have Yq:=ax xC;unfold bp at Yp Yq;rw[ib];cases t1:(a.op != 1);rotate_left
  ·have t2:¬a.op=1:=by simpa using t1
   have ed:=hid (show yM aq (bD a) (bD b)=none by
    have h5:eK aq (bD b)=true:=ib
    simp only[yM,bj,h5]
    simp[bD,Tr.op,Tr.v,ez,t2])
   have r0:=HZ.cell 0;have r1:=HZ.cell 1;have r2:=HZ.cell 2;have cX:=ah.frozen HZ;have lz:=HZ.lt;simp only[List.getElem?_toArray,List.getElem?_cons_zero,List.getElem?_cons_succ] at r0 r1 r2;clear HZ;go_wp2_with fail;exact bodyPost_ret (v:=.tuple #[.agg #[.int .u8 (0),.int .i64 (0),.string (⟨#[]⟩)],.bool false]) (by simp[results,Tryz.results19,go_sem,r0,r1,r2,aL];done) rfl ⟨by rw[ed.out];rfl,((hB.setCell hz _).setCell hz _).setCell hz _⟩
  have t2:a.op=1:=by simpa using t1
  have T2:=hid t2;clear t2;cases t3:(a.v.k==0);rotate_left
  ·have t4:a.v.k=0:=by simpa using t3
   have T4:=hid t4;clear t4;have ed:=hid (show yM aq (bD a) (bD b)=none by
    have h5:eK aq (bD b)=true:=ib
    simp only[yM,bj,h5]
    simp[bD,Tr.op,Tr.v,ez,T2.out,T4.out])
   have r0:=HZ.cell 0;have r1:=HZ.cell 1;have r2:=HZ.cell 2;have cX:=ah.frozen HZ;have lz:=HZ.lt;simp only[List.getElem?_toArray,List.getElem?_cons_zero,List.getElem?_cons_succ] at r0 r1 r2;clear HZ;go_wp2_with fail;exact bodyPost_ret (v:=.tuple #[.agg #[.int .u8 (0),.int .i64 (0),.string (⟨#[]⟩)],.bool false]) (by simp[results,Tryz.results19,go_sem,r0,r1,r2,aL];done) rfl ⟨by rw[ed.out];rfl,((hB.setCell hz _).setCell hz _).setCell hz _⟩
  have t4:¬a.v.k=0:=by simpa using t3
  have ed:=hid (show yM aq (bD a) (bD b)=some a.v by
   have h5:eK aq (bD b)=true:=ib
   simp only[yM,bj,h5]
   simp[bD,Tr.op,Tr.v,ez,T2.out,t4])
  have r0:=HZ.cell 0;have r1:=HZ.cell 1;have r2:=HZ.cell 2;have cX:=ah.frozen HZ;have lz:=HZ.lt;simp only[List.getElem?_toArray,List.getElem?_cons_zero,List.getElem?_cons_succ] at r0 r1 r2;clear HZ;go_wp2_with fail;exact bodyPost_ret (v:=.tuple #[.agg #[.int .u8 (a.v.k),.int .i64 (a.v.n),.string (a.v.s)],.bool true]) (by simp[results,Tryz.results19,go_sem,r0,r1,r2,aL];done) rfl ⟨by rw[ed.out];rfl,((hB.setCell hz _).setCell hz _).setCell hz _⟩
end Go.Proofs.YtfmbcoeallmnnaaGreatDoor
