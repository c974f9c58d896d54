/- Parts of the proof. -/
import Derived.Test.YtfmbcoeallmnnaaGreatDoorC13
import Derived.Test.YtfmbcoeallmnnaaGreatDoorC15
namespace Go.Proofs.YtfmbcoeallmnnaaGreatDoor
open Go.Lib (hid)
open Go.ChangeShapes Go.WideShapes Go.ChangeAt Go.RowKit
set_option linter.unusedVariables false
set_option linter.unusedSimpArgs false
theorem ax {w:World} {g:Nat} {t:TypeId} {y:Ex}(h:ah w g t #[.int .u8 y.op,.int .u8 y.v.k,.int .i64 y.v.n,.string y.v.s,.string y.name,.int .i64 y.width,.slice y.A y.n y.c]):bp w g 0 y:=⟨h.cell 0,h.cell 1,h.cell 2,h.cell 3,h.cell 4,h.cell 5,h.cell 6⟩
def dJ (x y:Sp):Sp:=if (x.a==0 && x.b==0)=true then y else if (y.a==0 && y.b==0)=true then x else⟨min x.a y.a,max x.b y.b⟩
def eH (op:Int)(aq:ByteArray)(a b:Ex):Sp:=
 if (a.op==1 && a.v.k==0)=true then aw
 else if (b.op==1 && b.v.k==0)=true then aw
 else if (op != 11 &&(a.op==2 && a.name.toList==aq.toList)&&(b.op==1 && b.v.k==2))=true then nP op b.v.n
 else if (op != 11 &&(b.op==2 && b.name.toList==aq.toList)&&(a.op==1 && a.v.k==2))=true then nP (ez op) a.v.n
 else aP
set_option maxHeartbeats 4000000
set_option maxRecDepth 100000
theorem MI (v:Val)(name:ByteArray)(width:Int)(A:Option Addr)(c:Nat)(aq:ByteArray)(w:World)(a b:Ex)(sa sb:Sp)(hA:RE w w.heap.size A [a,b])(ha:jG 22 aq w a sa)(po:jG 22 aq w b sb):
  Calls Tryz.prog 22 #[.agg #[.int .u8 16,.int .u8 v.k,.int .i64 v.n,.string v.s,.string name,.int .i64 width,.slice A 2 c],.string aq] w (cv (cw sa sb) w):=by
 obtain⟨q0,off,rfl,hq,jk,jl⟩:=hA.two;clear hA;have HX:=ah.new w 34 #[.int .u8 16,.int .u8 v.k,.int .i64 v.n,.string v.s,.string name,.int .i64 width,.slice (some ⟨q0,off,none⟩) 2 c];have hb0:=aa w (.cells #[.int .u8 16,.int .u8 v.k,.int .i64 v.n,.string v.s,.string name,.int .i64 width,.slice (some ⟨q0,off,none⟩) 2 c] 34);have HZ:=(ah.new (w.alloc (.cells #[.int .u8 16,.int .u8 v.k,.int .i64 v.n,.string v.s,.string name,.int .i64 width,.slice (some ⟨q0,off,none⟩) 2 c] 34)) 30 #[.int .i64 0,.int .i64 0]);have hb1:=aa (w.alloc (.cells #[.int .u8 16,.int .u8 v.k,.int .i64 v.n,.string v.s,.string name,.int .i64 width,.slice (some ⟨q0,off,none⟩) 2 c] 34)) (.cells #[.int .i64 0,.int .i64 0] 30);replace HX:=HX.later hb1;have hB:=ae.then hb0 hb1
 clear hb0 hb1;rw[World.size_alloc] at HZ;have hz:w.heap.size≤w.heap.size+1:=by omega
 go_enter Tryz.func22,Tryz.ntmps22;go_upto_region 1 with fail
 generalize World.alloc (World.alloc w _) _=W at*;generalize w.heap.size+1=gz at*;obtain⟨gx,hgx⟩:∃gx,gx=w.heap.size:=⟨_,rfl⟩;rw[← hgx] at HX ⊢;clear hgx;have x0:=HX.cell 0;have x1:=HX.cell 1;have x2:=HX.cell 2;have x3:=HX.cell 3;have x4:=HX.cell 4;have x5:=HX.cell 5;have x6:=HX.cell 6;simp only[List.getElem?_toArray,List.getElem?_cons_zero,List.getElem?_cons_succ] at x0 x1 x2 x3 x4 x5 x6;go_upto_region 2 with fail
 have lx:=HX.lt;have q6:=fun(w3:World) (hb:Below W.heap.size W w3)=>(hb.cell (p:=⟨gx,6,none⟩) lx).trans x6
 have lq:q0 < W.heap.size:=Nat.lt_of_lt_of_le hq hB.size;have qa:=fun(w3:World) (hb:Below W.heap.size W w3)=>(jk.keep fun o=>hB.cell (p:=⟨q0,o,none⟩) hq).keep fun o=>hb.cell (p:=⟨q0,o,none⟩) lq
 have qb:=fun(w3:World) (hb:Below W.heap.size W w3)=>(jl.keep fun o=>hB.cell (p:=⟨q0,o,none⟩) hq).keep fun o=>hb.cell (p:=⟨q0,o,none⟩) lq
 have na:=fun(w3:World) (hb:Below W.heap.size W w3)=>ha w3 (ae.then hB hb)
 have nb:=fun(w3:World) (hb:Below W.heap.size W w3)=>po w3 (ae.then hB hb)
 unfold bp at qa qb;unfold cv at na nb;clear jk jl lq;obtain⟨z,hz0⟩:∃z,z=cw sa sb:=⟨_,rfl⟩;have gb:=hid hz0;rw[← hz0];clear hz0;have nc:∀(w3:World) (hb:Below W.heap.size W w3),Calls Tryz.prog 38 #[aM sa,aM sb] w3 (fun e w'=>e=.returned (aM z)∧Below w3.heap.size w3 w'):=fun w3 hb=>by rw[gb.out];exact Jy _ _ _
 refine dR 13 (fun i=>([.pointer (some ⟨gx,6,none⟩),.slice (some ⟨q0,off,none⟩) 2 c,.pointer (some ⟨q0,off,none⟩),.agg #[.int .u8 a.op,.int .u8 a.v.k,.int .i64 a.v.n,.string a.v.s,.string a.name,.int .i64 a.width,.slice a.A a.n a.c],.string aq,aM sa,.pointer (some ⟨gx,6,none⟩),.slice (some ⟨q0,off,none⟩) 2 c,.pointer (some ⟨q0,off+7,none⟩),.agg #[.int .u8 b.op,.int .u8 b.v.k,.int .i64 b.v.n,.string b.v.s,.string b.name,.int .i64 b.width,.slice b.A b.n b.c],.string aq,aM sb,aM z]:List Value).getD i undef) [] [5,11,12] (by kernel_rfl) (by kernel_rfl) (by kernel_rfl) (by kernel_rfl) (by kernel_rfl) ?_ ?_
 ·simp only[List.take_succ_cons,List.take_zero];refine⟨?_,?_,?_,?_,?_,?_,?_,?_,?_,?_,?_,?_,?_,trivial⟩
  ·refine ag rfl rfl rfl fun ρ w3 hc hb hr=>?_
   have h0:ρ (.tmp 2)=.pointer (some ⟨gx,0,none⟩):=hr.1;show(execOp ρ _).run _ w3=.ok (.value (.pointer (some ⟨gx,6,none⟩))) w3;simp[go_sem,hc.const,h0]
  ·refine ag rfl rfl rfl fun ρ w3 hc hb hr=>?_
   have h0:ρ (.tmp 12)=.pointer (some ⟨gx,6,none⟩):=hr.1 (by kernel_rfl);show(execOp ρ _).run _ w3=.ok (.value (.slice (some ⟨q0,off,none⟩) 2 c)) w3;simp[go_sem,hc.const,h0,q6 w3 hb,qa w3 hb,qb w3 hb]
  ·refine ag rfl rfl rfl fun ρ w3 hc hb hr=>?_
   have h0:ρ (.tmp 13)=.slice (some ⟨q0,off,none⟩) 2 c:=hr.1 (by kernel_rfl);show(execOp ρ _).run _ w3=.ok (.value (.pointer (some ⟨q0,off,none⟩))) w3;simp[go_sem,hc.const,h0]
  ·refine ag rfl rfl rfl fun ρ w3 hc hb hr=>?_
   have h0:ρ (.tmp 14)=.pointer (some ⟨q0,off,none⟩):=hr.1 (by kernel_rfl);show(execOp ρ _).run _ w3=.ok (.value (.agg #[.int .u8 a.op,.int .u8 a.v.k,.int .i64 a.v.n,.string a.v.s,.string a.name,.int .i64 a.width,.slice a.A a.n a.c])) w3;simp[go_sem,hc.const,h0,q6 w3 hb,qa w3 hb,qb w3 hb]
  ·refine ag rfl rfl rfl fun ρ w3 hc hb hr=>?_
   have h0:ρ (.tmp 1)=.string aq:=hr.1;show(execOp ρ _).run _ w3=.ok (.value (.string aq)) w3;simp[go_sem,hc.const,h0]
  ·refine cK rfl rfl rfl fun ρ w3 hc hb hr=>?_
   have h0:ρ (.tmp 15)=.agg #[.int .u8 a.op,.int .u8 a.v.k,.int .i64 a.v.n,.string a.v.s,.string a.name,.int .i64 a.width,.slice a.A a.n a.c]:=hr.1 (by kernel_rfl);have h1:ρ (.tmp 16)=.string aq:=hr.2.1 (by kernel_rfl);exact ek (by simp[go_sem,hc.const,hc.func,h0,h1]) (na w3 hb)
  ·refine ag rfl rfl rfl fun ρ w3 hc hb hr=>?_
   have h0:ρ (.tmp 2)=.pointer (some ⟨gx,0,none⟩):=hr.1;show(execOp ρ _).run _ w3=.ok (.value (.pointer (some ⟨gx,6,none⟩))) w3;simp[go_sem,hc.const,h0]
  ·refine ag rfl rfl rfl fun ρ w3 hc hb hr=>?_
   have h0:ρ (.tmp 18)=.pointer (some ⟨gx,6,none⟩):=hr.1 (by kernel_rfl);show(execOp ρ _).run _ w3=.ok (.value (.slice (some ⟨q0,off,none⟩) 2 c)) w3;simp[go_sem,hc.const,h0,q6 w3 hb,qa w3 hb,qb w3 hb]
  ·refine ag rfl rfl rfl fun ρ w3 hc hb hr=>?_
   have h0:ρ (.tmp 19)=.slice (some ⟨q0,off,none⟩) 2 c:=hr.1 (by kernel_rfl);show(execOp ρ _).run _ w3=.ok (.value (.pointer (some ⟨q0,off+7,none⟩))) w3;simp[go_sem,hc.const,h0]
  ·refine ag rfl rfl rfl fun ρ w3 hc hb hr=>?_
   have h0:ρ (.tmp 20)=.pointer (some ⟨q0,off+7,none⟩):=hr.1 (by kernel_rfl);show(execOp ρ _).run _ w3=.ok (.value (.agg #[.int .u8 b.op,.int .u8 b.v.k,.int .i64 b.v.n,.string b.v.s,.string b.name,.int .i64 b.width,.slice b.A b.n b.c])) w3;simp[go_sem,hc.const,h0,q6 w3 hb,qa w3 hb,qb w3 hb]
  ·refine ag rfl rfl rfl fun ρ w3 hc hb hr=>?_
   have h0:ρ (.tmp 1)=.string aq:=hr.1;show(execOp ρ _).run _ w3=.ok (.value (.string aq)) w3;simp[go_sem,hc.const,h0]
  ·refine cK rfl rfl rfl fun ρ w3 hc hb hr=>?_
   have h0:ρ (.tmp 21)=.agg #[.int .u8 b.op,.int .u8 b.v.k,.int .i64 b.v.n,.string b.v.s,.string b.name,.int .i64 b.width,.slice b.A b.n b.c]:=hr.1 (by kernel_rfl);have h1:ρ (.tmp 22)=.string aq:=hr.2.1 (by kernel_rfl);exact ek (by simp[go_sem,hc.const,hc.func,h0,h1]) (nb w3 hb)
  ·refine cK rfl rfl rfl fun ρ w3 hc hb hr=>?_
   have h0:ρ (.tmp 17)=aM sa:=hr.1 (by kernel_rfl);have h1:ρ (.tmp 23)=aM sb:=hr.2.1 (by kernel_rfl);exact ek (by simp[go_sem,hc.const,hc.func,h0,h1]) (nc w3 hb)
 intro W2 gg hb2 hbl hne;clear hbl hne;simp only[List.take_succ_cons,List.take_zero,List.drop_succ_cons,List.drop_zero,tR,List.getD_cons_zero,List.getD_cons_succ,List.any_cons,List.any_nil,Act.put,List.setIfInBounds_toArray,List.set_cons_succ,List.set_cons_zero,Nat.reduceBEq,Nat.reduceAdd,Nat.zero_add,Bool.or_false,Bool.false_or,Bool.or_true,Bool.true_or,Bool.or_self,if_true,if_false,ite_true,ite_false,Bool.false_eq_true,beq_self_eq_true];clear gg;clear q6 qa qb na nb nc x0 x1 x2 x3 x4 x5 x6 ha po;replace hB:=ae.then hB hb2
 replace HZ:=HZ.later hb2;unfold aM;have bB:=ai HZ;have cX:=ah.frozen HZ;clear HZ;go_wp2_with fail;exact bodyPost_ret (v:=aM z) (by simp[results,Tryz.results22,go_sem,bB,aM,aw,aP,cP,bo]) rfl ⟨by rw[gb.out],(hB.setCell hz _).setCell hz _⟩
theorem Qv (v:Val)(name:ByteArray)(width:Int)(A:Option Addr)(c:Nat)(aq:ByteArray)(w:World)(a b:Ex)(sa sb:Sp)(hA:RE w w.heap.size A [a,b])(ha:jG 22 aq w a sa)(po:jG 22 aq w b sb):
  Calls Tryz.prog 22 #[.agg #[.int .u8 17,.int .u8 v.k,.int .i64 v.n,.string v.s,.string name,.int .i64 width,.slice A 2 c],.string aq] w (cv (dJ sa sb) w):=by
 obtain⟨q0,off,rfl,hq,jk,jl⟩:=hA.two;clear hA;have HX:=ah.new w 34 #[.int .u8 17,.int .u8 v.k,.int .i64 v.n,.string v.s,.string name,.int .i64 width,.slice (some ⟨q0,off,none⟩) 2 c];have hb0:=aa w (.cells #[.int .u8 17,.int .u8 v.k,.int .i64 v.n,.string v.s,.string name,.int .i64 width,.slice (some ⟨q0,off,none⟩) 2 c] 34);have HZ:=(ah.new (w.alloc (.cells #[.int .u8 17,.int .u8 v.k,.int .i64 v.n,.string v.s,.string name,.int .i64 width,.slice (some ⟨q0,off,none⟩) 2 c] 34)) 30 #[.int .i64 0,.int .i64 0]);have hb1:=aa (w.alloc (.cells #[.int .u8 17,.int .u8 v.k,.int .i64 v.n,.string v.s,.string name,.int .i64 width,.slice (some ⟨q0,off,none⟩) 2 c] 34)) (.cells #[.int .i64 0,.int .i64 0] 30);replace HX:=HX.later hb1;have hB:=ae.then hb0 hb1
 clear hb0 hb1;rw[World.size_alloc] at HZ;have hz:w.heap.size≤w.heap.size+1:=by omega
 go_enter Tryz.func22,Tryz.ntmps22;go_upto_region 1 with fail
 generalize World.alloc (World.alloc w _) _=W at*;generalize w.heap.size+1=gz at*;obtain⟨gx,hgx⟩:∃gx,gx=w.heap.size:=⟨_,rfl⟩;rw[← hgx] at HX ⊢;clear hgx;have x0:=HX.cell 0;have x1:=HX.cell 1;have x2:=HX.cell 2;have x3:=HX.cell 3;have x4:=HX.cell 4;have x5:=HX.cell 5;have x6:=HX.cell 6;simp only[List.getElem?_toArray,List.getElem?_cons_zero,List.getElem?_cons_succ] at x0 x1 x2 x3 x4 x5 x6;go_upto_region 4 with fail
 have lx:=HX.lt;have q6:=fun(w3:World) (hb:Below W.heap.size W w3)=>(hb.cell (p:=⟨gx,6,none⟩) lx).trans x6
 have lq:q0 < W.heap.size:=Nat.lt_of_lt_of_le hq hB.size;have qa:=fun(w3:World) (hb:Below W.heap.size W w3)=>(jk.keep fun o=>hB.cell (p:=⟨q0,o,none⟩) hq).keep fun o=>hb.cell (p:=⟨q0,o,none⟩) lq
 have qb:=fun(w3:World) (hb:Below W.heap.size W w3)=>(jl.keep fun o=>hB.cell (p:=⟨q0,o,none⟩) hq).keep fun o=>hb.cell (p:=⟨q0,o,none⟩) lq
 have na:=fun(w3:World) (hb:Below W.heap.size W w3)=>ha w3 (ae.then hB hb)
 have nb:=fun(w3:World) (hb:Below W.heap.size W w3)=>po w3 (ae.then hB hb)
 unfold bp at qa qb;unfold cv at na nb;clear jk jl lq;refine dR 14 (fun i=>([.pointer (some ⟨gx,6,none⟩),.slice (some ⟨q0,off,none⟩) 2 c,.pointer (some ⟨q0,off,none⟩),.agg #[.int .u8 a.op,.int .u8 a.v.k,.int .i64 a.v.n,.string a.v.s,.string a.name,.int .i64 a.width,.slice a.A a.n a.c],.string aq,aM sa,.pointer (some ⟨gx,6,none⟩),.slice (some ⟨q0,off,none⟩) 2 c,.pointer (some ⟨q0,off+7,none⟩),.agg #[.int .u8 b.op,.int .u8 b.v.k,.int .i64 b.v.n,.string b.v.s,.string b.name,.int .i64 b.width,.slice b.A b.n b.c],.string aq,aM sb,undef,undef]:List Value).getD i undef) [⟨12,30,#[.int .i64 0,.int .i64 0],14,#[.int .i64 sa.a,.int .i64 sa.b]⟩,⟨13,30,#[.int .i64 0,.int .i64 0],15,#[.int .i64 sb.a,.int .i64 sb.b]⟩] [5,11] (by kernel_rfl) (by kernel_rfl) (by kernel_rfl) (by kernel_rfl) (by kernel_rfl) ?_ ?_
 ·simp only[List.take_succ_cons,List.take_zero];refine⟨?_,?_,?_,?_,?_,?_,?_,?_,?_,?_,?_,?_,?_,?_,trivial⟩
  ·refine ag rfl rfl rfl fun ρ w3 hc hb hr=>?_
   have h0:ρ (.tmp 2)=.pointer (some ⟨gx,0,none⟩):=hr.1;show(execOp ρ _).run _ w3=.ok (.value (.pointer (some ⟨gx,6,none⟩))) w3;simp[go_sem,hc.const,h0]
  ·refine ag rfl rfl rfl fun ρ w3 hc hb hr=>?_
   have h0:ρ (.tmp 28)=.pointer (some ⟨gx,6,none⟩):=hr.1 (by kernel_rfl);show(execOp ρ _).run _ w3=.ok (.value (.slice (some ⟨q0,off,none⟩) 2 c)) w3;simp[go_sem,hc.const,h0,q6 w3 hb,qa w3 hb,qb w3 hb]
  ·refine ag rfl rfl rfl fun ρ w3 hc hb hr=>?_
   have h0:ρ (.tmp 29)=.slice (some ⟨q0,off,none⟩) 2 c:=hr.1 (by kernel_rfl);show(execOp ρ _).run _ w3=.ok (.value (.pointer (some ⟨q0,off,none⟩))) w3;simp[go_sem,hc.const,h0]
  ·refine ag rfl rfl rfl fun ρ w3 hc hb hr=>?_
   have h0:ρ (.tmp 30)=.pointer (some ⟨q0,off,none⟩):=hr.1 (by kernel_rfl);show(execOp ρ _).run _ w3=.ok (.value (.agg #[.int .u8 a.op,.int .u8 a.v.k,.int .i64 a.v.n,.string a.v.s,.string a.name,.int .i64 a.width,.slice a.A a.n a.c])) w3;simp[go_sem,hc.const,h0,q6 w3 hb,qa w3 hb,qb w3 hb]
  ·refine ag rfl rfl rfl fun ρ w3 hc hb hr=>?_
   have h0:ρ (.tmp 1)=.string aq:=hr.1;show(execOp ρ _).run _ w3=.ok (.value (.string aq)) w3;simp[go_sem,hc.const,h0]
  ·refine cK rfl rfl rfl fun ρ w3 hc hb hr=>?_
   have h0:ρ (.tmp 31)=.agg #[.int .u8 a.op,.int .u8 a.v.k,.int .i64 a.v.n,.string a.v.s,.string a.name,.int .i64 a.width,.slice a.A a.n a.c]:=hr.1 (by kernel_rfl);have h1:ρ (.tmp 32)=.string aq:=hr.2.1 (by kernel_rfl);exact ek (by simp[go_sem,hc.const,hc.func,h0,h1]) (na w3 hb)
  ·refine ag rfl rfl rfl fun ρ w3 hc hb hr=>?_
   have h0:ρ (.tmp 2)=.pointer (some ⟨gx,0,none⟩):=hr.1;show(execOp ρ _).run _ w3=.ok (.value (.pointer (some ⟨gx,6,none⟩))) w3;simp[go_sem,hc.const,h0]
  ·refine ag rfl rfl rfl fun ρ w3 hc hb hr=>?_
   have h0:ρ (.tmp 34)=.pointer (some ⟨gx,6,none⟩):=hr.1 (by kernel_rfl);show(execOp ρ _).run _ w3=.ok (.value (.slice (some ⟨q0,off,none⟩) 2 c)) w3;simp[go_sem,hc.const,h0,q6 w3 hb,qa w3 hb,qb w3 hb]
  ·refine ag rfl rfl rfl fun ρ w3 hc hb hr=>?_
   have h0:ρ (.tmp 35)=.slice (some ⟨q0,off,none⟩) 2 c:=hr.1 (by kernel_rfl);show(execOp ρ _).run _ w3=.ok (.value (.pointer (some ⟨q0,off+7,none⟩))) w3;simp[go_sem,hc.const,h0]
  ·refine ag rfl rfl rfl fun ρ w3 hc hb hr=>?_
   have h0:ρ (.tmp 36)=.pointer (some ⟨q0,off+7,none⟩):=hr.1 (by kernel_rfl);show(execOp ρ _).run _ w3=.ok (.value (.agg #[.int .u8 b.op,.int .u8 b.v.k,.int .i64 b.v.n,.string b.v.s,.string b.name,.int .i64 b.width,.slice b.A b.n b.c])) w3;simp[go_sem,hc.const,h0,q6 w3 hb,qa w3 hb,qb w3 hb]
  ·refine ag rfl rfl rfl fun ρ w3 hc hb hr=>?_
   have h0:ρ (.tmp 1)=.string aq:=hr.1;show(execOp ρ _).run _ w3=.ok (.value (.string aq)) w3;simp[go_sem,hc.const,h0]
  ·refine cK rfl rfl rfl fun ρ w3 hc hb hr=>?_
   have h0:ρ (.tmp 37)=.agg #[.int .u8 b.op,.int .u8 b.v.k,.int .i64 b.v.n,.string b.v.s,.string b.name,.int .i64 b.width,.slice b.A b.n b.c]:=hr.1 (by kernel_rfl);have h1:ρ (.tmp 38)=.string aq:=hr.2.1 (by kernel_rfl);exact ek (by simp[go_sem,hc.const,hc.func,h0,h1]) (nb w3 hb)
  ·exact cY _ rfl rfl fun ρ w3 hc=>by first | rfl | simp[go_sem]
  ·exact cY _ rfl rfl fun ρ w3 hc=>by first | rfl | simp[go_sem]
 intro W2 gg hb2 hbl hne;have H5:ah W2 (gg 12) 30 #[.int .i64 0,.int .i64 0]:=(hbl _ (.head _)).2;have l5:W.heap.size≤gg 12:=(hbl _ (.head _)).1;have Jq:gg 12≠gg 13:=hne _ (.head _) _ (.tail _ (.head _)) (show(12:Nat)≠13 by decide);have H6:ah W2 (gg 13) 30 #[.int .i64 0,.int .i64 0]:=(hbl _ (.tail _ (.head _))).2;have l6:W.heap.size≤gg 13:=(hbl _ (.tail _ (.head _))).1;clear hbl hne;simp only[List.take_succ_cons,List.take_zero,List.drop_succ_cons,List.drop_zero,tR,List.getD_cons_zero,List.getD_cons_succ,List.any_cons,List.any_nil,Act.put,List.setIfInBounds_toArray,List.set_cons_succ,List.set_cons_zero,Nat.reduceBEq,Nat.reduceAdd,Nat.zero_add,Bool.or_false,Bool.false_or,Bool.or_true,Bool.true_or,Bool.or_self,if_true,if_false,ite_true,ite_false,Bool.false_eq_true,beq_self_eq_true];generalize gg 12=g5 at*;generalize gg 13=g6 at*;clear gg;have lz:=HZ.lt;have Xb:gz≠g5:=by omega
 have Xc:gz≠g6:=by omega
 have Xd:w.heap.size≤g5:=Nat.le_trans hB.size l5;have Xe:w.heap.size≤g6:=Nat.le_trans hB.size l6;replace HZ:=HZ.later hb2;replace hB:=ae.then hB hb2
 clear q6 qa qb na nb x0 x1 x2 x3 x4 x5 x6 l5 l6 lx lz;unfold aM;have TD:(Tryz.prog.info? 30).map (·.size)=some 2:=by kernel_rfl
 refine wpList_store_row rfl 30 (.tmp 5) (.tmp 33) rfl g5 #[.int .i64 sa.a,.int .i64 sa.b] rfl rfl 30 #[.int .i64 0,.int .i64 0] H5 TD rfl (by kernel_rfl) ?_;replace H6:=cG H6 (fun e=>Jq e.symm) #[.int .i64 sa.a,.int .i64 sa.b];replace HZ:=cG HZ Xb #[.int .i64 sa.a,.int .i64 sa.b];replace hB:=dI hB Xd #[.int .i64 sa.a,.int .i64 sa.b];replace H5:=gO H5 #[.int .i64 sa.a,.int .i64 sa.b];generalize World.setRow _ _ _=W3 at*;refine wpList_store_row rfl 30 (.tmp 6) (.tmp 39) rfl g6 #[.int .i64 sb.a,.int .i64 sb.b] rfl rfl 30 #[.int .i64 0,.int .i64 0] H6 TD rfl (by kernel_rfl) ?_;replace H5:=cG H5 Jq #[.int .i64 sb.a,.int .i64 sb.b];replace HZ:=cG HZ Xc #[.int .i64 sb.a,.int .i64 sb.b];replace hB:=dI hB Xe #[.int .i64 sb.a,.int .i64 sb.b];replace H6:=gO H6 #[.int .i64 sb.a,.int .i64 sb.b];generalize World.setRow _ _ _=W4 at*;refine wpList_nil ?_;simp only[Act.put,List.setIfInBounds_toArray,List.set_cons_succ,List.set_cons_zero];have y5:=ai H5;have y6:=ai H6;cases ta:(sa.a==0);rotate_left
 ·cases VS:(sa.b==0);rotate_left
  ·have ed:=hid (show dJ sa sb=sb by simp[dJ,ta,VS]);have bB:=ai HZ;have cX:=ah.frozen HZ;clear HZ;go_wp2_with fail;exact bodyPost_ret (v:=aM sb) (by simp[results,Tryz.results22,go_sem,bB,aM,aw,aP,cP,bo]) rfl ⟨by rw[ed.out],(hB.setCell hz _).setCell hz _⟩
  ·cases tb:(sb.a==0);rotate_left
   ·cases TS:(sb.b==0);rotate_left
    ·have ed:=hid (show dJ sa sb=sa by simp[dJ,ta,VS,tb,TS]);have bB:=ai HZ;have cX:=ah.frozen HZ;clear HZ;go_wp2_with fail;exact bodyPost_ret (v:=aM sa) (by simp[results,Tryz.results22,go_sem,bB,aM,aw,aP,cP,bo]) rfl ⟨by rw[ed.out],(hB.setCell hz _).setCell hz _⟩
    ·have ed:=hid (show dJ sa sb=⟨min sa.a sb.a,max sa.b sb.b⟩ by simp[dJ,ta,VS,tb,TS]);have bB:=ai HZ;have cX:=ah.frozen HZ;clear HZ;by_cases c1:sa.a≤sb.a <;> by_cases c2:sa.b < sb.b
     ·have HM:=hid (show dJ sa sb=⟨sa.a,sb.b⟩ by rw[ed.out];exact iR (by omega) (by omega));clear ed;go_wp2_with fail;exact bodyPost_ret (v:=aM ⟨sa.a,sb.b⟩) (by simp[results,Tryz.results22,go_sem,bB,aM,aw]) rfl ⟨by rw[HM.out],(hB.setCell hz _).setCell hz _⟩
     ·have HM:=hid (show dJ sa sb=⟨sa.a,sa.b⟩ by rw[ed.out];exact iR (by omega) (by omega));clear ed;go_wp2_with fail;exact bodyPost_ret (v:=aM ⟨sa.a,sa.b⟩) (by simp[results,Tryz.results22,go_sem,bB,aM,aw]) rfl ⟨by rw[HM.out],(hB.setCell hz _).setCell hz _⟩
     ·have HM:=hid (show dJ sa sb=⟨sb.a,sb.b⟩ by rw[ed.out];exact iR (by omega) (by omega));clear ed;go_wp2_with fail;exact bodyPost_ret (v:=aM ⟨sb.a,sb.b⟩) (by simp[results,Tryz.results22,go_sem,bB,aM,aw]) rfl ⟨by rw[HM.out],(hB.setCell hz _).setCell hz _⟩
     ·have HM:=hid (show dJ sa sb=⟨sb.a,sa.b⟩ by rw[ed.out];exact iR (by omega) (by omega));clear ed;go_wp2_with fail;exact bodyPost_ret (v:=aM ⟨sb.a,sa.b⟩) (by simp[results,Tryz.results22,go_sem,bB,aM,aw]) rfl ⟨by rw[HM.out],(hB.setCell hz _).setCell hz _⟩
   ·have ed:=hid (show dJ sa sb=⟨min sa.a sb.a,max sa.b sb.b⟩ by simp[dJ,ta,VS,tb]);have bB:=ai HZ;have cX:=ah.frozen HZ;clear HZ;by_cases c1:sa.a≤sb.a <;> by_cases c2:sa.b < sb.b
    ·have HM:=hid (show dJ sa sb=⟨sa.a,sb.b⟩ by rw[ed.out];exact iR (by omega) (by omega));clear ed;go_wp2_with fail;exact bodyPost_ret (v:=aM ⟨sa.a,sb.b⟩) (by simp[results,Tryz.results22,go_sem,bB,aM,aw]) rfl ⟨by rw[HM.out],(hB.setCell hz _).setCell hz _⟩
    ·have HM:=hid (show dJ sa sb=⟨sa.a,sa.b⟩ by rw[ed.out];exact iR (by omega) (by omega));clear ed;go_wp2_with fail;exact bodyPost_ret (v:=aM ⟨sa.a,sa.b⟩) (by simp[results,Tryz.results22,go_sem,bB,aM,aw]) rfl ⟨by rw[HM.out],(hB.setCell hz _).setCell hz _⟩
    ·have HM:=hid (show dJ sa sb=⟨sb.a,sb.b⟩ by rw[ed.out];exact iR (by omega) (by omega));clear ed;go_wp2_with fail;exact bodyPost_ret (v:=aM ⟨sb.a,sb.b⟩) (by simp[results,Tryz.results22,go_sem,bB,aM,aw]) rfl ⟨by rw[HM.out],(hB.setCell hz _).setCell hz _⟩
    ·have HM:=hid (show dJ sa sb=⟨sb.a,sa.b⟩ by rw[ed.out];exact iR (by omega) (by omega));clear ed;go_wp2_with fail;exact bodyPost_ret (v:=aM ⟨sb.a,sa.b⟩) (by simp[results,Tryz.results22,go_sem,bB,aM,aw]) rfl ⟨by rw[HM.out],(hB.setCell hz _).setCell hz _⟩
 ·cases tb:(sb.a==0);rotate_left
  ·cases TS:(sb.b==0);rotate_left
   ·have ed:=hid (show dJ sa sb=sa by simp[dJ,ta,tb,TS]);have bB:=ai HZ;have cX:=ah.frozen HZ;clear HZ;go_wp2_with fail;exact bodyPost_ret (v:=aM sa) (by simp[results,Tryz.results22,go_sem,bB,aM,aw,aP,cP,bo]) rfl ⟨by rw[ed.out],(hB.setCell hz _).setCell hz _⟩
   ·have ed:=hid (show dJ sa sb=⟨min sa.a sb.a,max sa.b sb.b⟩ by simp[dJ,ta,tb,TS]);have bB:=ai HZ;have cX:=ah.frozen HZ;clear HZ;by_cases c1:sa.a≤sb.a <;> by_cases c2:sa.b < sb.b
    ·have HM:=hid (show dJ sa sb=⟨sa.a,sb.b⟩ by rw[ed.out];exact iR (by omega) (by omega));clear ed;go_wp2_with fail;exact bodyPost_ret (v:=aM ⟨sa.a,sb.b⟩) (by simp[results,Tryz.results22,go_sem,bB,aM,aw]) rfl ⟨by rw[HM.out],(hB.setCell hz _).setCell hz _⟩
    ·have HM:=hid (show dJ sa sb=⟨sa.a,sa.b⟩ by rw[ed.out];exact iR (by omega) (by omega));clear ed;go_wp2_with fail;exact bodyPost_ret (v:=aM ⟨sa.a,sa.b⟩) (by simp[results,Tryz.results22,go_sem,bB,aM,aw]) rfl ⟨by rw[HM.out],(hB.setCell hz _).setCell hz _⟩
    ·have HM:=hid (show dJ sa sb=⟨sb.a,sb.b⟩ by rw[ed.out];exact iR (by omega) (by omega));clear ed;go_wp2_with fail;exact bodyPost_ret (v:=aM ⟨sb.a,sb.b⟩) (by simp[results,Tryz.results22,go_sem,bB,aM,aw]) rfl ⟨by rw[HM.out],(hB.setCell hz _).setCell hz _⟩
    ·have HM:=hid (show dJ sa sb=⟨sb.a,sa.b⟩ by rw[ed.out];exact iR (by omega) (by omega));clear ed;go_wp2_with fail;exact bodyPost_ret (v:=aM ⟨sb.a,sa.b⟩) (by simp[results,Tryz.results22,go_sem,bB,aM,aw]) rfl ⟨by rw[HM.out],(hB.setCell hz _).setCell hz _⟩
  ·have ed:=hid (show dJ sa sb=⟨min sa.a sb.a,max sa.b sb.b⟩ by simp[dJ,ta,tb]);have bB:=ai HZ;have cX:=ah.frozen HZ;clear HZ;by_cases c1:sa.a≤sb.a <;> by_cases c2:sa.b < sb.b
   ·have HM:=hid (show dJ sa sb=⟨sa.a,sb.b⟩ by rw[ed.out];exact iR (by omega) (by omega));clear ed;go_wp2_with fail;exact bodyPost_ret (v:=aM ⟨sa.a,sb.b⟩) (by simp[results,Tryz.results22,go_sem,bB,aM,aw]) rfl ⟨by rw[HM.out],(hB.setCell hz _).setCell hz _⟩
   ·have HM:=hid (show dJ sa sb=⟨sa.a,sa.b⟩ by rw[ed.out];exact iR (by omega) (by omega));clear ed;go_wp2_with fail;exact bodyPost_ret (v:=aM ⟨sa.a,sa.b⟩) (by simp[results,Tryz.results22,go_sem,bB,aM,aw]) rfl ⟨by rw[HM.out],(hB.setCell hz _).setCell hz _⟩
   ·have HM:=hid (show dJ sa sb=⟨sb.a,sb.b⟩ by rw[ed.out];exact iR (by omega) (by omega));clear ed;go_wp2_with fail;exact bodyPost_ret (v:=aM ⟨sb.a,sb.b⟩) (by simp[results,Tryz.results22,go_sem,bB,aM,aw]) rfl ⟨by rw[HM.out],(hB.setCell hz _).setCell hz _⟩
   ·have HM:=hid (show dJ sa sb=⟨sb.a,sa.b⟩ by rw[ed.out];exact iR (by omega) (by omega));clear ed;go_wp2_with fail;exact bodyPost_ret (v:=aM ⟨sb.a,sa.b⟩) (by simp[results,Tryz.results22,go_sem,bB,aM,aw]) rfl ⟨by rw[HM.out],(hB.setCell hz _).setCell hz _⟩
theorem MJ (op:Int)(v:Val)(name:ByteArray)(width:Int)(A:Option Addr)(n:Nat)(c:Nat)(aq:ByteArray)(w:World)(tA:(op==16)=false)(tB:(op==17)=false)(h1:(op==1)=true)(k0:(v.k==0)=true):
  Calls Tryz.prog 22 #[.agg #[.int .u8 op,.int .u8 v.k,.int .i64 v.n,.string v.s,.string name,.int .i64 width,.slice A n c],.string aq] w (cv aw w):=by
 have HX:=ah.new w 34 #[.int .u8 op,.int .u8 v.k,.int .i64 v.n,.string v.s,.string name,.int .i64 width,.slice A n c];have hb0:=aa w (.cells #[.int .u8 op,.int .u8 v.k,.int .i64 v.n,.string v.s,.string name,.int .i64 width,.slice A n c] 34);have HZ:=(ah.new (w.alloc (.cells #[.int .u8 op,.int .u8 v.k,.int .i64 v.n,.string v.s,.string name,.int .i64 width,.slice A n c] 34)) 30 #[.int .i64 0,.int .i64 0]);have hb1:=aa (w.alloc (.cells #[.int .u8 op,.int .u8 v.k,.int .i64 v.n,.string v.s,.string name,.int .i64 width,.slice A n c] 34)) (.cells #[.int .i64 0,.int .i64 0] 30);replace HX:=HX.later hb1;have hB:=ae.then hb0 hb1
 clear hb0 hb1;rw[World.size_alloc] at HZ;have hz:w.heap.size≤w.heap.size+1:=by omega
 go_enter Tryz.func22,Tryz.ntmps22;go_upto_region 1 with fail
 generalize World.alloc (World.alloc w _) _=W at*;generalize w.heap.size+1=gz at*;obtain⟨gx,hgx⟩:∃gx,gx=w.heap.size:=⟨_,rfl⟩;rw[← hgx] at HX ⊢;clear hgx;have x0:=HX.cell 0;have x1:=HX.cell 1;have x2:=HX.cell 2;have x3:=HX.cell 3;have x4:=HX.cell 4;have x5:=HX.cell 5;have x6:=HX.cell 6;simp only[List.getElem?_toArray,List.getElem?_cons_zero,List.getElem?_cons_succ] at x0 x1 x2 x3 x4 x5 x6;go_wp2_with fail;refine(dH ⟨op,v,name,width,A,n,c⟩ 0 _).mono ?_;rintro e w5 ⟨rfl,b5⟩;dsimp only;replace HX:=HX.later b5;replace HZ:=HZ.later b5;replace hB:=ae.then hB b5
 clear b5 x0 x1 x2 x3 x4 x5 x6;have x0:=HX.cell 0;have x1:=HX.cell 1;have x2:=HX.cell 2;have x3:=HX.cell 3;have x4:=HX.cell 4;have x5:=HX.cell 5;have x6:=HX.cell 6;simp only[List.getElem?_toArray,List.getElem?_cons_zero,List.getElem?_cons_succ] at x0 x1 x2 x3 x4 x5 x6;rw[h1,k0];have bB:=ai HZ;have cX:=ah.frozen HZ;clear HZ;go_wp2_with fail;exact bodyPost_ret (v:=aM aw) (by simp[results,Tryz.results22,go_sem,bB,aM,aw,aP,cP,bo]) rfl ⟨rfl,(hB.setCell hz _).setCell hz _⟩
theorem Qw (op:Int)(v:Val)(name:ByteArray)(width:Int)(A:Option Addr)(n:Nat)(c:Nat)(aq:ByteArray)(w:World)(tA:(op==16)=false)(tB:(op==17)=false)(h1:(op==1)=true)(k0:(v.k==0)=false)(k1:(v.k==1)=true)(k2:(v.n==0)=true):
  Calls Tryz.prog 22 #[.agg #[.int .u8 op,.int .u8 v.k,.int .i64 v.n,.string v.s,.string name,.int .i64 width,.slice A n c],.string aq] w (cv aw w):=by
 have HX:=ah.new w 34 #[.int .u8 op,.int .u8 v.k,.int .i64 v.n,.string v.s,.string name,.int .i64 width,.slice A n c];have hb0:=aa w (.cells #[.int .u8 op,.int .u8 v.k,.int .i64 v.n,.string v.s,.string name,.int .i64 width,.slice A n c] 34);have HZ:=(ah.new (w.alloc (.cells #[.int .u8 op,.int .u8 v.k,.int .i64 v.n,.string v.s,.string name,.int .i64 width,.slice A n c] 34)) 30 #[.int .i64 0,.int .i64 0]);have hb1:=aa (w.alloc (.cells #[.int .u8 op,.int .u8 v.k,.int .i64 v.n,.string v.s,.string name,.int .i64 width,.slice A n c] 34)) (.cells #[.int .i64 0,.int .i64 0] 30);replace HX:=HX.later hb1;have hB:=ae.then hb0 hb1
 clear hb0 hb1;rw[World.size_alloc] at HZ;have hz:w.heap.size≤w.heap.size+1:=by omega
 go_enter Tryz.func22,Tryz.ntmps22;go_upto_region 1 with fail
 generalize World.alloc (World.alloc w _) _=W at*;generalize w.heap.size+1=gz at*;obtain⟨gx,hgx⟩:∃gx,gx=w.heap.size:=⟨_,rfl⟩;rw[← hgx] at HX ⊢;clear hgx;have x0:=HX.cell 0;have x1:=HX.cell 1;have x2:=HX.cell 2;have x3:=HX.cell 3;have x4:=HX.cell 4;have x5:=HX.cell 5;have x6:=HX.cell 6;simp only[List.getElem?_toArray,List.getElem?_cons_zero,List.getElem?_cons_succ] at x0 x1 x2 x3 x4 x5 x6;go_wp2_with fail;refine(dH ⟨op,v,name,width,A,n,c⟩ 0 _).mono ?_;rintro e w5 ⟨rfl,b5⟩;dsimp only;replace HX:=HX.later b5;replace HZ:=HZ.later b5;replace hB:=ae.then hB b5
 clear b5 x0 x1 x2 x3 x4 x5 x6;have x0:=HX.cell 0;have x1:=HX.cell 1;have x2:=HX.cell 2;have x3:=HX.cell 3;have x4:=HX.cell 4;have x5:=HX.cell 5;have x6:=HX.cell 6;simp only[List.getElem?_toArray,List.getElem?_cons_zero,List.getElem?_cons_succ] at x0 x1 x2 x3 x4 x5 x6;rw[h1,k0];go_wp2_with fail;refine(dH ⟨op,v,name,width,A,n,c⟩ 1 _).mono ?_;rintro e w6 ⟨rfl,b5⟩;dsimp only;replace HX:=HX.later b5;replace HZ:=HZ.later b5;replace hB:=ae.then hB b5
 clear b5 x0 x1 x2 x3 x4 x5 x6;have x0:=HX.cell 0;have x1:=HX.cell 1;have x2:=HX.cell 2;have x3:=HX.cell 3;have x4:=HX.cell 4;have x5:=HX.cell 5;have x6:=HX.cell 6;simp only[List.getElem?_toArray,List.getElem?_cons_zero,List.getElem?_cons_succ] at x0 x1 x2 x3 x4 x5 x6;rw[h1,k1];have bB:=ai HZ;have cX:=ah.frozen HZ;clear HZ;go_wp2_with fail;exact bodyPost_ret (v:=aM aw) (by simp[results,Tryz.results22,go_sem,bB,aM,aw,aP,cP,bo]) rfl ⟨rfl,(hB.setCell hz _).setCell hz _⟩
theorem Qx (op:Int)(v:Val)(name:ByteArray)(width:Int)(A:Option Addr)(n:Nat)(c:Nat)(aq:ByteArray)(w:World)(tA:(op==16)=false)(tB:(op==17)=false)(h1:(op==1)=false)(hw:op < 10∨15 < op):
  Calls Tryz.prog 22 #[.agg #[.int .u8 op,.int .u8 v.k,.int .i64 v.n,.string v.s,.string name,.int .i64 width,.slice A n c],.string aq] w (cv aP w):=by
 have HX:=ah.new w 34 #[.int .u8 op,.int .u8 v.k,.int .i64 v.n,.string v.s,.string name,.int .i64 width,.slice A n c];have hb0:=aa w (.cells #[.int .u8 op,.int .u8 v.k,.int .i64 v.n,.string v.s,.string name,.int .i64 width,.slice A n c] 34);have HZ:=(ah.new (w.alloc (.cells #[.int .u8 op,.int .u8 v.k,.int .i64 v.n,.string v.s,.string name,.int .i64 width,.slice A n c] 34)) 30 #[.int .i64 0,.int .i64 0]);have hb1:=aa (w.alloc (.cells #[.int .u8 op,.int .u8 v.k,.int .i64 v.n,.string v.s,.string name,.int .i64 width,.slice A n c] 34)) (.cells #[.int .i64 0,.int .i64 0] 30);replace HX:=HX.later hb1;have hB:=ae.then hb0 hb1
 clear hb0 hb1;rw[World.size_alloc] at HZ;have hz:w.heap.size≤w.heap.size+1:=by omega
 go_enter Tryz.func22,Tryz.ntmps22;go_upto_region 1 with fail
 generalize World.alloc (World.alloc w _) _=W at*;generalize w.heap.size+1=gz at*;obtain⟨gx,hgx⟩:∃gx,gx=w.heap.size:=⟨_,rfl⟩;rw[← hgx] at HX ⊢;clear hgx;have x0:=HX.cell 0;have x1:=HX.cell 1;have x2:=HX.cell 2;have x3:=HX.cell 3;have x4:=HX.cell 4;have x5:=HX.cell 5;have x6:=HX.cell 6;simp only[List.getElem?_toArray,List.getElem?_cons_zero,List.getElem?_cons_succ] at x0 x1 x2 x3 x4 x5 x6;go_wp2_with fail;refine(dH ⟨op,v,name,width,A,n,c⟩ 0 _).mono ?_;rintro e w5 ⟨rfl,b5⟩;dsimp only;replace HX:=HX.later b5;replace HZ:=HZ.later b5;replace hB:=ae.then hB b5
 clear b5 x0 x1 x2 x3 x4 x5 x6;have x0:=HX.cell 0;have x1:=HX.cell 1;have x2:=HX.cell 2;have x3:=HX.cell 3;have x4:=HX.cell 4;have x5:=HX.cell 5;have x6:=HX.cell 6;simp only[List.getElem?_toArray,List.getElem?_cons_zero,List.getElem?_cons_succ] at x0 x1 x2 x3 x4 x5 x6;rw[h1];go_wp2_with fail;refine(dH ⟨op,v,name,width,A,n,c⟩ 1 _).mono ?_;rintro e w6 ⟨rfl,b5⟩;dsimp only;replace HX:=HX.later b5;replace HZ:=HZ.later b5;replace hB:=ae.then hB b5
 clear b5 x0 x1 x2 x3 x4 x5 x6;have x0:=HX.cell 0;have x1:=HX.cell 1;have x2:=HX.cell 2;have x3:=HX.cell 3;have x4:=HX.cell 4;have x5:=HX.cell 5;have x6:=HX.cell 6;simp only[List.getElem?_toArray,List.getElem?_cons_zero,List.getElem?_cons_succ] at x0 x1 x2 x3 x4 x5 x6;rw[h1];by_cases c1:op < 10
 ·have c2:=decide_eq_true c1;go_wp2_with fail;refine(cS _).mono ?_;rintro e w9 ⟨rfl,b5⟩;replace HZ:=HZ.later b5;replace hB:=ae.then hB b5
  have bB:=ai HZ;have cX:=ah.frozen HZ;clear HZ;go_wp2_with fail;exact bodyPost_ret (v:=aM aP) (by simp[results,Tryz.results22,go_sem,bB,aM,aw,aP,cP,bo]) rfl ⟨rfl,(hB.setCell hz _).setCell hz _⟩
 ·have c2:=decide_eq_false c1;have c3:decide (15 < op)=true:=decide_eq_true (by omega);clear c1 hw;go_wp2_with fail;refine(cS _).mono ?_;rintro e w9 ⟨rfl,b5⟩;replace HZ:=HZ.later b5;replace hB:=ae.then hB b5
  have bB:=ai HZ;have cX:=ah.frozen HZ;clear HZ;go_wp2_with fail;exact bodyPost_ret (v:=aM aP) (by simp[results,Tryz.results22,go_sem,bB,aM,aw,aP,cP,bo]) rfl ⟨rfl,(hB.setCell hz _).setCell hz _⟩
theorem Qy (op:Int)(v:Val)(name:ByteArray)(width:Int)(A:Option Addr)(n:Nat)(c:Nat)(aq:ByteArray)(w:World)(tA:(op==16)=false)(tB:(op==17)=false)(h1:(op==1)=true)(k0:(v.k==0)=false)(k1:(v.k==1)=false)(hw:op < 10∨15 < op):
  Calls Tryz.prog 22 #[.agg #[.int .u8 op,.int .u8 v.k,.int .i64 v.n,.string v.s,.string name,.int .i64 width,.slice A n c],.string aq] w (cv aP w):=by
 have HX:=ah.new w 34 #[.int .u8 op,.int .u8 v.k,.int .i64 v.n,.string v.s,.string name,.int .i64 width,.slice A n c];have hb0:=aa w (.cells #[.int .u8 op,.int .u8 v.k,.int .i64 v.n,.string v.s,.string name,.int .i64 width,.slice A n c] 34);have HZ:=(ah.new (w.alloc (.cells #[.int .u8 op,.int .u8 v.k,.int .i64 v.n,.string v.s,.string name,.int .i64 width,.slice A n c] 34)) 30 #[.int .i64 0,.int .i64 0]);have hb1:=aa (w.alloc (.cells #[.int .u8 op,.int .u8 v.k,.int .i64 v.n,.string v.s,.string name,.int .i64 width,.slice A n c] 34)) (.cells #[.int .i64 0,.int .i64 0] 30);replace HX:=HX.later hb1;have hB:=ae.then hb0 hb1
 clear hb0 hb1;rw[World.size_alloc] at HZ;have hz:w.heap.size≤w.heap.size+1:=by omega
 go_enter Tryz.func22,Tryz.ntmps22;go_upto_region 1 with fail
 generalize World.alloc (World.alloc w _) _=W at*;generalize w.heap.size+1=gz at*;obtain⟨gx,hgx⟩:∃gx,gx=w.heap.size:=⟨_,rfl⟩;rw[← hgx] at HX ⊢;clear hgx;have x0:=HX.cell 0;have x1:=HX.cell 1;have x2:=HX.cell 2;have x3:=HX.cell 3;have x4:=HX.cell 4;have x5:=HX.cell 5;have x6:=HX.cell 6;simp only[List.getElem?_toArray,List.getElem?_cons_zero,List.getElem?_cons_succ] at x0 x1 x2 x3 x4 x5 x6;go_wp2_with fail;refine(dH ⟨op,v,name,width,A,n,c⟩ 0 _).mono ?_;rintro e w5 ⟨rfl,b5⟩;dsimp only;replace HX:=HX.later b5;replace HZ:=HZ.later b5;replace hB:=ae.then hB b5
 clear b5 x0 x1 x2 x3 x4 x5 x6;have x0:=HX.cell 0;have x1:=HX.cell 1;have x2:=HX.cell 2;have x3:=HX.cell 3;have x4:=HX.cell 4;have x5:=HX.cell 5;have x6:=HX.cell 6;simp only[List.getElem?_toArray,List.getElem?_cons_zero,List.getElem?_cons_succ] at x0 x1 x2 x3 x4 x5 x6;rw[h1,k0];go_wp2_with fail;refine(dH ⟨op,v,name,width,A,n,c⟩ 1 _).mono ?_;rintro e w6 ⟨rfl,b5⟩;dsimp only;replace HX:=HX.later b5;replace HZ:=HZ.later b5;replace hB:=ae.then hB b5
 clear b5 x0 x1 x2 x3 x4 x5 x6;have x0:=HX.cell 0;have x1:=HX.cell 1;have x2:=HX.cell 2;have x3:=HX.cell 3;have x4:=HX.cell 4;have x5:=HX.cell 5;have x6:=HX.cell 6;simp only[List.getElem?_toArray,List.getElem?_cons_zero,List.getElem?_cons_succ] at x0 x1 x2 x3 x4 x5 x6;rw[h1,k1];by_cases c1:op < 10
 ·have c2:=decide_eq_true c1;go_wp2_with fail;refine(cS _).mono ?_;rintro e w9 ⟨rfl,b5⟩;replace HZ:=HZ.later b5;replace hB:=ae.then hB b5
  have bB:=ai HZ;have cX:=ah.frozen HZ;clear HZ;go_wp2_with fail;exact bodyPost_ret (v:=aM aP) (by simp[results,Tryz.results22,go_sem,bB,aM,aw,aP,cP,bo]) rfl ⟨rfl,(hB.setCell hz _).setCell hz _⟩
 ·have c2:=decide_eq_false c1;have c3:decide (15 < op)=true:=decide_eq_true (by omega);clear c1 hw;go_wp2_with fail;refine(cS _).mono ?_;rintro e w9 ⟨rfl,b5⟩;replace HZ:=HZ.later b5;replace hB:=ae.then hB b5
  have bB:=ai HZ;have cX:=ah.frozen HZ;clear HZ;go_wp2_with fail;exact bodyPost_ret (v:=aM aP) (by simp[results,Tryz.results22,go_sem,bB,aM,aw,aP,cP,bo]) rfl ⟨rfl,(hB.setCell hz _).setCell hz _⟩
theorem Qz (op:Int)(v:Val)(name:ByteArray)(width:Int)(A:Option Addr)(n:Nat)(c:Nat)(aq:ByteArray)(w:World)(tA:(op==16)=false)(tB:(op==17)=false)(h1:(op==1)=true)(k0:(v.k==0)=false)(k1:(v.k==1)=true)(k2:(v.n==0)=false)(hw:op < 10∨15 < op):
  Calls Tryz.prog 22 #[.agg #[.int .u8 op,.int .u8 v.k,.int .i64 v.n,.string v.s,.string name,.int .i64 width,.slice A n c],.string aq] w (cv aP w):=by
 have HX:=ah.new w 34 #[.int .u8 op,.int .u8 v.k,.int .i64 v.n,.string v.s,.string name,.int .i64 width,.slice A n c];have hb0:=aa w (.cells #[.int .u8 op,.int .u8 v.k,.int .i64 v.n,.string v.s,.string name,.int .i64 width,.slice A n c] 34);have HZ:=(ah.new (w.alloc (.cells #[.int .u8 op,.int .u8 v.k,.int .i64 v.n,.string v.s,.string name,.int .i64 width,.slice A n c] 34)) 30 #[.int .i64 0,.int .i64 0]);have hb1:=aa (w.alloc (.cells #[.int .u8 op,.int .u8 v.k,.int .i64 v.n,.string v.s,.string name,.int .i64 width,.slice A n c] 34)) (.cells #[.int .i64 0,.int .i64 0] 30);replace HX:=HX.later hb1;have hB:=ae.then hb0 hb1
 clear hb0 hb1;rw[World.size_alloc] at HZ;have hz:w.heap.size≤w.heap.size+1:=by omega
 go_enter Tryz.func22,Tryz.ntmps22;go_upto_region 1 with fail
 generalize World.alloc (World.alloc w _) _=W at*;generalize w.heap.size+1=gz at*;obtain⟨gx,hgx⟩:∃gx,gx=w.heap.size:=⟨_,rfl⟩;rw[← hgx] at HX ⊢;clear hgx;have x0:=HX.cell 0;have x1:=HX.cell 1;have x2:=HX.cell 2;have x3:=HX.cell 3;have x4:=HX.cell 4;have x5:=HX.cell 5;have x6:=HX.cell 6;simp only[List.getElem?_toArray,List.getElem?_cons_zero,List.getElem?_cons_succ] at x0 x1 x2 x3 x4 x5 x6;go_wp2_with fail;refine(dH ⟨op,v,name,width,A,n,c⟩ 0 _).mono ?_;rintro e w5 ⟨rfl,b5⟩;dsimp only;replace HX:=HX.later b5;replace HZ:=HZ.later b5;replace hB:=ae.then hB b5
 clear b5 x0 x1 x2 x3 x4 x5 x6;have x0:=HX.cell 0;have x1:=HX.cell 1;have x2:=HX.cell 2;have x3:=HX.cell 3;have x4:=HX.cell 4;have x5:=HX.cell 5;have x6:=HX.cell 6;simp only[List.getElem?_toArray,List.getElem?_cons_zero,List.getElem?_cons_succ] at x0 x1 x2 x3 x4 x5 x6;rw[h1,k0];go_wp2_with fail;refine(dH ⟨op,v,name,width,A,n,c⟩ 1 _).mono ?_;rintro e w6 ⟨rfl,b5⟩;dsimp only;replace HX:=HX.later b5;replace HZ:=HZ.later b5;replace hB:=ae.then hB b5
 clear b5 x0 x1 x2 x3 x4 x5 x6;have x0:=HX.cell 0;have x1:=HX.cell 1;have x2:=HX.cell 2;have x3:=HX.cell 3;have x4:=HX.cell 4;have x5:=HX.cell 5;have x6:=HX.cell 6;simp only[List.getElem?_toArray,List.getElem?_cons_zero,List.getElem?_cons_succ] at x0 x1 x2 x3 x4 x5 x6;rw[h1,k1];by_cases c1:op < 10
 ·have c2:=decide_eq_true c1;go_wp2_with fail;refine(cS _).mono ?_;rintro e w9 ⟨rfl,b5⟩;replace HZ:=HZ.later b5;replace hB:=ae.then hB b5
  have bB:=ai HZ;have cX:=ah.frozen HZ;clear HZ;go_wp2_with fail;exact bodyPost_ret (v:=aM aP) (by simp[results,Tryz.results22,go_sem,bB,aM,aw,aP,cP,bo]) rfl ⟨rfl,(hB.setCell hz _).setCell hz _⟩
 ·have c2:=decide_eq_false c1;have c3:decide (15 < op)=true:=decide_eq_true (by omega);clear c1 hw;go_wp2_with fail;refine(cS _).mono ?_;rintro e w9 ⟨rfl,b5⟩;replace HZ:=HZ.later b5;replace hB:=ae.then hB b5
  have bB:=ai HZ;have cX:=ah.frozen HZ;clear HZ;go_wp2_with fail;exact bodyPost_ret (v:=aM aP) (by simp[results,Tryz.results22,go_sem,bB,aM,aw,aP,cP,bo]) rfl ⟨rfl,(hB.setCell hz _).setCell hz _⟩
theorem Jz (op:Int)(v:Val)(name:ByteArray)(width:Int)(A:Option Addr)(c:Nat)(aq:ByteArray)(w:World)(tA:(op==16)=false)(tB:(op==17)=false)(h1:(op==1)=false)(c2:decide (op < 10)=false)(c3:decide (15 < op)=false)(a b:Ex)(hA:RE w w.heap.size A [a,b])(Xf:(op != 11)=true→∀W2,Calls Tryz.prog 40 #[.int .u8 op,.int .i64 b.v.n] W2 (cv (nP op b.v.n) W2))(MK:(op != 11)=true→∀W2,Calls Tryz.prog 40 #[.int .u8 (ez op),.int .i64 a.v.n] W2 (cv (nP (ez op) a.v.n) W2)):
  Calls Tryz.prog 22 #[.agg #[.int .u8 op,.int .u8 v.k,.int .i64 v.n,.string v.s,.string name,.int .i64 width,.slice A 2 c],.string aq] w (cv (eH op aq a b) w):=by
 obtain⟨q0,off,rfl,hq,jk,jl⟩:=hA.two;clear hA;have HX:=ah.new w 34 #[.int .u8 op,.int .u8 v.k,.int .i64 v.n,.string v.s,.string name,.int .i64 width,.slice (some ⟨q0,off,none⟩) 2 c];have hb0:=aa w (.cells #[.int .u8 op,.int .u8 v.k,.int .i64 v.n,.string v.s,.string name,.int .i64 width,.slice (some ⟨q0,off,none⟩) 2 c] 34);have HZ:=(ah.new (w.alloc (.cells #[.int .u8 op,.int .u8 v.k,.int .i64 v.n,.string v.s,.string name,.int .i64 width,.slice (some ⟨q0,off,none⟩) 2 c] 34)) 30 #[.int .i64 0,.int .i64 0]);have hb1:=aa (w.alloc (.cells #[.int .u8 op,.int .u8 v.k,.int .i64 v.n,.string v.s,.string name,.int .i64 width,.slice (some ⟨q0,off,none⟩) 2 c] 34)) (.cells #[.int .i64 0,.int .i64 0] 30);replace HX:=HX.later hb1;have hB:=ae.then hb0 hb1
 clear hb0 hb1;rw[World.size_alloc] at HZ;have hz:w.heap.size≤w.heap.size+1:=by omega
 go_enter Tryz.func22,Tryz.ntmps22;go_upto_region 1 with fail
 generalize World.alloc (World.alloc w _) _=W at*;generalize w.heap.size+1=gz at*;obtain⟨gx,hgx⟩:∃gx,gx=w.heap.size:=⟨_,rfl⟩;rw[← hgx] at HX ⊢;clear hgx;have x0:=HX.cell 0;have x1:=HX.cell 1;have x2:=HX.cell 2;have x3:=HX.cell 3;have x4:=HX.cell 4;have x5:=HX.cell 5;have x6:=HX.cell 6;simp only[List.getElem?_toArray,List.getElem?_cons_zero,List.getElem?_cons_succ] at x0 x1 x2 x3 x4 x5 x6;go_wp2_with fail;refine(dH ⟨op,v,name,width,(some ⟨q0,off,none⟩),2,c⟩ 0 _).mono ?_;rintro e w5 ⟨rfl,b5⟩;dsimp only;replace HX:=HX.later b5;replace HZ:=HZ.later b5;replace hB:=ae.then hB b5
 clear b5 x0 x1 x2 x3 x4 x5 x6;have x0:=HX.cell 0;have x1:=HX.cell 1;have x2:=HX.cell 2;have x3:=HX.cell 3;have x4:=HX.cell 4;have x5:=HX.cell 5;have x6:=HX.cell 6;simp only[List.getElem?_toArray,List.getElem?_cons_zero,List.getElem?_cons_succ] at x0 x1 x2 x3 x4 x5 x6;rw[h1];go_wp2_with fail;refine(dH ⟨op,v,name,width,(some ⟨q0,off,none⟩),2,c⟩ 1 _).mono ?_;rintro e w6 ⟨rfl,b5⟩;dsimp only;replace HX:=HX.later b5;replace HZ:=HZ.later b5;replace hB:=ae.then hB b5
 clear b5 x0 x1 x2 x3 x4 x5 x6;have x0:=HX.cell 0;have x1:=HX.cell 1;have x2:=HX.cell 2;have x3:=HX.cell 3;have x4:=HX.cell 4;have x5:=HX.cell 5;have x6:=HX.cell 6;simp only[List.getElem?_toArray,List.getElem?_cons_zero,List.getElem?_cons_succ] at x0 x1 x2 x3 x4 x5 x6;rw[h1];go_upto_region 14 with fail
 have lx:=HX.lt;have q6:=fun(w3:World) (hb:Below w6.heap.size w6 w3)=>(hb.cell (p:=⟨gx,6,none⟩) lx).trans x6
 have lq:q0 < w6.heap.size:=Nat.lt_of_lt_of_le hq hB.size;have qa:=fun(w3:World) (hb:Below w6.heap.size w6 w3)=>(jk.keep fun o=>hB.cell (p:=⟨q0,o,none⟩) hq).keep fun o=>hb.cell (p:=⟨q0,o,none⟩) lq
 have qb:=fun(w3:World) (hb:Below w6.heap.size w6 w3)=>(jl.keep fun o=>hB.cell (p:=⟨q0,o,none⟩) hq).keep fun o=>hb.cell (p:=⟨q0,o,none⟩) lq
 unfold bp at qa qb;clear jk jl lq lx;refine dR 12 (fun i=>([.pointer (some ⟨gx,6,none⟩),.slice (some ⟨q0,off,none⟩) 2 c,.pointer (some ⟨q0,off,none⟩),.agg #[.int .u8 a.op,.int .u8 a.v.k,.int .i64 a.v.n,.string a.v.s,.string a.name,.int .i64 a.width,.slice a.A a.n a.c],.pointer (some ⟨gx,6,none⟩),.slice (some ⟨q0,off,none⟩) 2 c,.pointer (some ⟨q0,off+7,none⟩),.agg #[.int .u8 b.op,.int .u8 b.v.k,.int .i64 b.v.n,.string b.v.s,.string b.name,.int .i64 b.width,.slice b.A b.n b.c],undef,undef,undef,undef]:List Value).getD i undef) [⟨8,34,#[.int .u8 0,.int .u8 0,.int .i64 0,.string ⟨#[]⟩,.string ⟨#[]⟩,.int .i64 0,.slice none 0 0],10,#[.int .u8 a.op,.int .u8 a.v.k,.int .i64 a.v.n,.string a.v.s,.string a.name,.int .i64 a.width,.slice a.A a.n a.c]⟩,⟨9,34,#[.int .u8 0,.int .u8 0,.int .i64 0,.string ⟨#[]⟩,.string ⟨#[]⟩,.int .i64 0,.slice none 0 0],11,#[.int .u8 b.op,.int .u8 b.v.k,.int .i64 b.v.n,.string b.v.s,.string b.name,.int .i64 b.width,.slice b.A b.n b.c]⟩] [] (by kernel_rfl) (by kernel_rfl) (by kernel_rfl) (by kernel_rfl) (by kernel_rfl) ?_ ?_
 ·simp only[List.take_succ_cons,List.take_zero];refine⟨?_,?_,?_,?_,?_,?_,?_,?_,?_,?_,?_,?_,trivial⟩
  ·refine ag rfl rfl rfl fun ρ w3 hc hb hr=>?_
   have h0:ρ (.tmp 2)=.pointer (some ⟨gx,0,none⟩):=hr.1;show(execOp ρ _).run _ w3=.ok (.value (.pointer (some ⟨gx,6,none⟩))) w3;simp[go_sem,hc.const,h0]
  ·refine ag rfl rfl rfl fun ρ w3 hc hb hr=>?_
   have h0:ρ (.tmp 81)=.pointer (some ⟨gx,6,none⟩):=hr.1 (by kernel_rfl);show(execOp ρ _).run _ w3=.ok (.value (.slice (some ⟨q0,off,none⟩) 2 c)) w3;simp[go_sem,hc.const,h0,q6 w3 hb,qa w3 hb,qb w3 hb]
  ·refine ag rfl rfl rfl fun ρ w3 hc hb hr=>?_
   have h0:ρ (.tmp 82)=.slice (some ⟨q0,off,none⟩) 2 c:=hr.1 (by kernel_rfl);show(execOp ρ _).run _ w3=.ok (.value (.pointer (some ⟨q0,off,none⟩))) w3;simp[go_sem,hc.const,h0]
  ·refine ag rfl rfl rfl fun ρ w3 hc hb hr=>?_
   have h0:ρ (.tmp 83)=.pointer (some ⟨q0,off,none⟩):=hr.1 (by kernel_rfl);show(execOp ρ _).run _ w3=.ok (.value (.agg #[.int .u8 a.op,.int .u8 a.v.k,.int .i64 a.v.n,.string a.v.s,.string a.name,.int .i64 a.width,.slice a.A a.n a.c])) w3;simp[go_sem,hc.const,h0,q6 w3 hb,qa w3 hb,qb w3 hb]
  ·refine ag rfl rfl rfl fun ρ w3 hc hb hr=>?_
   have h0:ρ (.tmp 2)=.pointer (some ⟨gx,0,none⟩):=hr.1;show(execOp ρ _).run _ w3=.ok (.value (.pointer (some ⟨gx,6,none⟩))) w3;simp[go_sem,hc.const,h0]
  ·refine ag rfl rfl rfl fun ρ w3 hc hb hr=>?_
   have h0:ρ (.tmp 85)=.pointer (some ⟨gx,6,none⟩):=hr.1 (by kernel_rfl);show(execOp ρ _).run _ w3=.ok (.value (.slice (some ⟨q0,off,none⟩) 2 c)) w3;simp[go_sem,hc.const,h0,q6 w3 hb,qa w3 hb,qb w3 hb]
  ·refine ag rfl rfl rfl fun ρ w3 hc hb hr=>?_
   have h0:ρ (.tmp 86)=.slice (some ⟨q0,off,none⟩) 2 c:=hr.1 (by kernel_rfl);show(execOp ρ _).run _ w3=.ok (.value (.pointer (some ⟨q0,off+7,none⟩))) w3;simp[go_sem,hc.const,h0]
  ·refine ag rfl rfl rfl fun ρ w3 hc hb hr=>?_
   have h0:ρ (.tmp 87)=.pointer (some ⟨q0,off+7,none⟩):=hr.1 (by kernel_rfl);show(execOp ρ _).run _ w3=.ok (.value (.agg #[.int .u8 b.op,.int .u8 b.v.k,.int .i64 b.v.n,.string b.v.s,.string b.name,.int .i64 b.width,.slice b.A b.n b.c])) w3;simp[go_sem,hc.const,h0,q6 w3 hb,qa w3 hb,qb w3 hb]
  ·exact cY _ rfl rfl fun ρ w3 hc=>by first | rfl | simp[go_sem]
  ·exact cY _ rfl rfl fun ρ w3 hc=>by first | rfl | simp[go_sem]
  ·refine gp _ 34 (.tmp 7) (.tmp 84) rfl rfl rfl rfl (by kernel_rfl) (by kernel_rfl) (by kernel_rfl) (by kernel_rfl) fun ρ w3 gg hc hr=>?_
   have h0:ρ (.tmp 7)=.pointer (some ⟨gg,0,none⟩):=hr.1;have h1:ρ (.tmp 84)=.agg #[.int .u8 a.op,.int .u8 a.v.k,.int .i64 a.v.n,.string a.v.s,.string a.name,.int .i64 a.width,.slice a.A a.n a.c]:=hr.2.1 (by kernel_rfl);exact⟨h0,h1⟩
  ·refine gp _ 34 (.tmp 8) (.tmp 88) rfl rfl rfl rfl (by kernel_rfl) (by kernel_rfl) (by kernel_rfl) (by kernel_rfl) fun ρ w3 gg hc hr=>?_
   have h0:ρ (.tmp 8)=.pointer (some ⟨gg,0,none⟩):=hr.1;have h1:ρ (.tmp 88)=.agg #[.int .u8 b.op,.int .u8 b.v.k,.int .i64 b.v.n,.string b.v.s,.string b.name,.int .i64 b.width,.slice b.A b.n b.c]:=hr.2.1 (by kernel_rfl);exact⟨h0,h1⟩
 intro W2 gg hb2 hbl hne;have H7:ah W2 (gg 8) 34 #[.int .u8 a.op,.int .u8 a.v.k,.int .i64 a.v.n,.string a.v.s,.string a.name,.int .i64 a.width,.slice a.A a.n a.c]:=(hbl _ (.head _)).2;have l7:w6.heap.size≤gg 8:=(hbl _ (.head _)).1;have vd:gg 8≠gg 9:=hne _ (.head _) _ (.tail _ (.head _)) (show(8:Nat)≠9 by decide);have H8:ah W2 (gg 9) 34 #[.int .u8 b.op,.int .u8 b.v.k,.int .i64 b.v.n,.string b.v.s,.string b.name,.int .i64 b.width,.slice b.A b.n b.c]:=(hbl _ (.tail _ (.head _))).2;have l8:w6.heap.size≤gg 9:=(hbl _ (.tail _ (.head _))).1;clear hbl hne;simp only[List.take_succ_cons,List.take_zero,List.drop_succ_cons,List.drop_zero,tR,List.getD_cons_zero,List.getD_cons_succ,List.any_cons,List.any_nil,Act.put,List.setIfInBounds_toArray,List.set_cons_succ,List.set_cons_zero,Nat.reduceBEq,Nat.reduceAdd,Nat.zero_add,Bool.or_false,Bool.false_or,Bool.or_true,Bool.true_or,Bool.or_self,if_true,if_false,ite_true,ite_false,Bool.false_eq_true,beq_self_eq_true];generalize gg 8=g7 at*;generalize gg 9=g8 at*;clear gg;have b5:=hb2;clear hb2 q6 qa qb;replace HX:=HX.later b5;replace HZ:=HZ.later b5;replace hB:=ae.then hB b5
 clear b5 x0 x1 x2 x3 x4 x5 x6;have x0:=HX.cell 0;have x1:=HX.cell 1;have x2:=HX.cell 2;have x3:=HX.cell 3;have x4:=HX.cell 4;have x5:=HX.cell 5;have x6:=HX.cell 6;simp only[List.getElem?_toArray,List.getElem?_cons_zero,List.getElem?_cons_succ] at x0 x1 x2 x3 x4 x5 x6;refine wpList_nil ?_;have Ya:=ax H7;have Yb:=ax H8;unfold bp at Ya Yb;go_wp2_with fail;refine(dH a 0 _).mono ?_;rintro e w7 ⟨rfl,b5⟩;dsimp only;clear Ya Yb;replace HX:=HX.later b5;replace HZ:=HZ.later b5;replace H7:=H7.later b5;replace H8:=H8.later b5;replace hB:=ae.then hB b5
 clear b5 x0 x1 x2 x3 x4 x5 x6;have x0:=HX.cell 0;have x1:=HX.cell 1;have x2:=HX.cell 2;have x3:=HX.cell 3;have x4:=HX.cell 4;have x5:=HX.cell 5;have x6:=HX.cell 6;simp only[List.getElem?_toArray,List.getElem?_cons_zero,List.getElem?_cons_succ] at x0 x1 x2 x3 x4 x5 x6;have Ya:=ax H7;have Yb:=ax H8;unfold bp at Ya Yb;cases ML:(a.op==1 && a.v.k==0)
 ·skip
  go_wp2_with fail;refine(dH b 0 _).mono ?_;rintro e w8 ⟨rfl,b5⟩;dsimp only;clear Ya Yb;replace HX:=HX.later b5;replace HZ:=HZ.later b5;replace H7:=H7.later b5;replace H8:=H8.later b5;replace hB:=ae.then hB b5
  clear b5 x0 x1 x2 x3 x4 x5 x6;have x0:=HX.cell 0;have x1:=HX.cell 1;have x2:=HX.cell 2;have x3:=HX.cell 3;have x4:=HX.cell 4;have x5:=HX.cell 5;have x6:=HX.cell 6;simp only[List.getElem?_toArray,List.getElem?_cons_zero,List.getElem?_cons_succ] at x0 x1 x2 x3 x4 x5 x6;have Ya:=ax H7;have Yb:=ax H8;unfold bp at Ya Yb;cases zO:(b.op==1 && b.v.k==0)
  ·skip
   cases hne:(op != 11)
   ·skip
    have ed:=hid (show eH op aq a b=aP by simp only[eH,ML,zO,hne];simp);go_wp2_with fail;refine(cS _).mono ?_;rintro e TT ⟨rfl,b5⟩;replace HZ:=HZ.later b5;replace hB:=ae.then hB b5
    have bB:=ai HZ;have cX:=ah.frozen HZ;clear HZ;go_wp2_with fail;exact bodyPost_ret (v:=aM aP) (by simp[results,Tryz.results22,go_sem,bB,aM,aw,aP,cP,bo]) rfl ⟨by rw[ed.out],(hB.setCell hz _).setCell hz _⟩
   ·skip
    go_wp2_with fail;refine(rT a aq _).mono ?_;rintro e T3 ⟨rfl,b5⟩;dsimp only;clear Ya Yb;replace HX:=HX.later b5;replace HZ:=HZ.later b5;replace H7:=H7.later b5;replace H8:=H8.later b5;replace hB:=ae.then hB b5
    clear b5 x0 x1 x2 x3 x4 x5 x6;have x0:=HX.cell 0;have x1:=HX.cell 1;have x2:=HX.cell 2;have x3:=HX.cell 3;have x4:=HX.cell 4;have x5:=HX.cell 5;have x6:=HX.cell 6;simp only[List.getElem?_toArray,List.getElem?_cons_zero,List.getElem?_cons_succ] at x0 x1 x2 x3 x4 x5 x6;have Ya:=ax H7;have Yb:=ax H8;unfold bp at Ya Yb;cases ia:(a.op==2 && a.name.toList==aq.toList)
    ·skip
     go_wp2_with fail;refine(rT b aq _).mono ?_;rintro e J0 ⟨rfl,b5⟩;dsimp only;clear Ya Yb;replace HX:=HX.later b5;replace HZ:=HZ.later b5;replace H7:=H7.later b5;replace H8:=H8.later b5;replace hB:=ae.then hB b5
     clear b5 x0 x1 x2 x3 x4 x5 x6;have x0:=HX.cell 0;have x1:=HX.cell 1;have x2:=HX.cell 2;have x3:=HX.cell 3;have x4:=HX.cell 4;have x5:=HX.cell 5;have x6:=HX.cell 6;simp only[List.getElem?_toArray,List.getElem?_cons_zero,List.getElem?_cons_succ] at x0 x1 x2 x3 x4 x5 x6;have Ya:=ax H7;have Yb:=ax H8;unfold bp at Ya Yb;cases ib:(b.op==2 && b.name.toList==aq.toList)
     ·skip
      have ed:=hid (show eH op aq a b=aP by simp only[eH,ML,zO,hne,ia,ib];simp);go_wp2_with fail;refine(cS _).mono ?_;rintro e TT ⟨rfl,b5⟩;replace HZ:=HZ.later b5;replace hB:=ae.then hB b5
      have bB:=ai HZ;have cX:=ah.frozen HZ;clear HZ;go_wp2_with fail;exact bodyPost_ret (v:=aM aP) (by simp[results,Tryz.results22,go_sem,bB,aM,aw,aP,cP,bo]) rfl ⟨by rw[ed.out],(hB.setCell hz _).setCell hz _⟩
     ·skip
      go_wp2_with fail;refine(dH a 2 _).mono ?_;rintro e MM ⟨rfl,b5⟩;dsimp only;clear Ya Yb;replace HX:=HX.later b5;replace HZ:=HZ.later b5;replace H7:=H7.later b5;replace H8:=H8.later b5;replace hB:=ae.then hB b5
      clear b5 x0 x1 x2 x3 x4 x5 x6;have x0:=HX.cell 0;have x1:=HX.cell 1;have x2:=HX.cell 2;have x3:=HX.cell 3;have x4:=HX.cell 4;have x5:=HX.cell 5;have x6:=HX.cell 6;simp only[List.getElem?_toArray,List.getElem?_cons_zero,List.getElem?_cons_succ] at x0 x1 x2 x3 x4 x5 x6;have Ya:=ax H7;have Yb:=ax H8;unfold bp at Ya Yb;cases la:(a.op==1 && a.v.k==2)
      ·skip
       have ed:=hid (show eH op aq a b=aP by simp only[eH,ML,zO,hne,ia,ib,la];simp);go_wp2_with fail;refine(cS _).mono ?_;rintro e TT ⟨rfl,b5⟩;replace HZ:=HZ.later b5;replace hB:=ae.then hB b5
       have bB:=ai HZ;have cX:=ah.frozen HZ;clear HZ;go_wp2_with fail;exact bodyPost_ret (v:=aM aP) (by simp[results,Tryz.results22,go_sem,bB,aM,aw,aP,cP,bo]) rfl ⟨by rw[ed.out],(hB.setCell hz _).setCell hz _⟩
      ·skip
       have ed:=hid (show eH op aq a b=nP (ez op) a.v.n by simp only[eH,ML,zO,hne,ia,ib,la];simp);go_upto_region 20 with fail
       replace MK:=MK hne;unfold cv at MK;generalize nP (ez op) a.v.n=s at*;have lx:=HX.lt;have q0:=fun(w3:World) (hb:Below MM.heap.size MM w3)=>(hb.cell (p:=⟨gx,0,none⟩) lx).trans x0
       have qa:=fun(w3:World) (hb:Below MM.heap.size MM w3)=>ax (H7.later hb)
       have nt:=fun(w3:World) (hb:Below MM.heap.size MM w3)=>CK op w3
       have no:=fun(w3:World) (hb:Below MM.heap.size MM w3)=>MK w3
       unfold bp at qa;refine dR 7 (fun i=>([.pointer (some ⟨gx,0,none⟩),.int .u8 op,.int .u8 (ez op),.pointer (some ⟨g7,1,none⟩),.pointer (some ⟨g7,2,none⟩),.int .i64 a.v.n,aM s]:List Value).getD i undef) [] [2,6] (by kernel_rfl) (by kernel_rfl) (by kernel_rfl) (by kernel_rfl) (by kernel_rfl) ?_ ?_
       ·simp only[List.take_succ_cons,List.take_zero];refine⟨?_,?_,?_,?_,?_,?_,?_,trivial⟩
        ·refine ag rfl rfl rfl fun ρ w3 hc hb hr=>?_
         have h0:ρ (.tmp 2)=.pointer (some ⟨gx,0,none⟩):=hr.1;show(execOp ρ _).run _ w3=.ok (.value (.pointer (some ⟨gx,0,none⟩))) w3;simp[go_sem,hc.const,h0]
        ·refine ag rfl rfl rfl fun ρ w3 hc hb hr=>?_
         have h0:ρ (.tmp 126)=.pointer (some ⟨gx,0,none⟩):=hr.1 (by kernel_rfl);show(execOp ρ _).run _ w3=.ok (.value (.int .u8 op)) w3;simp[go_sem,hc.const,h0,q0 w3 hb,qa w3 hb]
        ·refine cK rfl rfl rfl fun ρ w3 hc hb hr=>?_
         have h0:ρ (.tmp 127)=.int .u8 op:=hr.1 (by kernel_rfl);exact ek (by simp[go_sem,hc.const,hc.func,h0]) (nt w3 hb)
        ·refine ag rfl rfl rfl fun ρ w3 hc hb hr=>?_
         have h0:ρ (.tmp 7)=.pointer (some ⟨g7,0,none⟩):=hr.1;show(execOp ρ _).run _ w3=.ok (.value (.pointer (some ⟨g7,1,none⟩))) w3;simp[go_sem,hc.const,h0]
        ·refine ag rfl rfl rfl fun ρ w3 hc hb hr=>?_
         have h0:ρ (.tmp 129)=.pointer (some ⟨g7,1,none⟩):=hr.1 (by kernel_rfl);show(execOp ρ _).run _ w3=.ok (.value (.pointer (some ⟨g7,2,none⟩))) w3;simp[go_sem,hc.const,h0]
        ·refine ag rfl rfl rfl fun ρ w3 hc hb hr=>?_
         have h0:ρ (.tmp 130)=.pointer (some ⟨g7,2,none⟩):=hr.1 (by kernel_rfl);show(execOp ρ _).run _ w3=.ok (.value (.int .i64 a.v.n)) w3;simp[go_sem,hc.const,h0,q0 w3 hb,qa w3 hb]
        ·refine cK rfl rfl rfl fun ρ w3 hc hb hr=>?_
         have h0:ρ (.tmp 128)=.int .u8 (ez op):=hr.1 (by kernel_rfl);have h1:ρ (.tmp 131)=.int .i64 a.v.n:=hr.2.1 (by kernel_rfl);exact ek (by simp[go_sem,hc.const,hc.func,h0,h1]) (no w3 hb)
       intro W2 gg hb2 hbl hne;clear hbl hne;simp only[List.take_succ_cons,List.take_zero,List.drop_succ_cons,List.drop_zero,tR,List.getD_cons_zero,List.getD_cons_succ,List.any_cons,List.any_nil,Act.put,List.setIfInBounds_toArray,List.set_cons_succ,List.set_cons_zero,Nat.reduceBEq,Nat.reduceAdd,Nat.zero_add,Bool.or_false,Bool.false_or,Bool.or_true,Bool.true_or,Bool.or_self,if_true,if_false,ite_true,ite_false,Bool.false_eq_true,beq_self_eq_true];clear gg;clear q0 qa nt no lx x0 x1 x2 x3 x4 x5 x6 Ya Yb;replace hB:=ae.then hB hb2
       replace HZ:=HZ.later hb2;unfold aM;have bB:=ai HZ;have cX:=ah.frozen HZ;clear HZ;go_wp2_with fail;exact bodyPost_ret (v:=aM s) (by simp[results,Tryz.results22,go_sem,bB,aM,aw,aP,cP,bo]) rfl ⟨by rw[ed.out],(hB.setCell hz _).setCell hz _⟩
    ·skip
     go_wp2_with fail;refine(dH b 2 _).mono ?_;rintro e J0 ⟨rfl,b5⟩;dsimp only;clear Ya Yb;replace HX:=HX.later b5;replace HZ:=HZ.later b5;replace H7:=H7.later b5;replace H8:=H8.later b5;replace hB:=ae.then hB b5
     clear b5 x0 x1 x2 x3 x4 x5 x6;have x0:=HX.cell 0;have x1:=HX.cell 1;have x2:=HX.cell 2;have x3:=HX.cell 3;have x4:=HX.cell 4;have x5:=HX.cell 5;have x6:=HX.cell 6;simp only[List.getElem?_toArray,List.getElem?_cons_zero,List.getElem?_cons_succ] at x0 x1 x2 x3 x4 x5 x6;have Ya:=ax H7;have Yb:=ax H8;unfold bp at Ya Yb;cases lb:(b.op==1 && b.v.k==2)
     ·skip
      go_wp2_with fail;refine(rT b aq _).mono ?_;rintro e MM ⟨rfl,b5⟩;dsimp only;clear Ya Yb;replace HX:=HX.later b5;replace HZ:=HZ.later b5;replace H7:=H7.later b5;replace H8:=H8.later b5;replace hB:=ae.then hB b5
      clear b5 x0 x1 x2 x3 x4 x5 x6;have x0:=HX.cell 0;have x1:=HX.cell 1;have x2:=HX.cell 2;have x3:=HX.cell 3;have x4:=HX.cell 4;have x5:=HX.cell 5;have x6:=HX.cell 6;simp only[List.getElem?_toArray,List.getElem?_cons_zero,List.getElem?_cons_succ] at x0 x1 x2 x3 x4 x5 x6;have Ya:=ax H7;have Yb:=ax H8;unfold bp at Ya Yb;cases ib:(b.op==2 && b.name.toList==aq.toList)
      ·skip
       have ed:=hid (show eH op aq a b=aP by simp only[eH,ML,zO,hne,ia,lb,ib];simp);go_wp2_with fail;refine(cS _).mono ?_;rintro e TT ⟨rfl,b5⟩;replace HZ:=HZ.later b5;replace hB:=ae.then hB b5
       have bB:=ai HZ;have cX:=ah.frozen HZ;clear HZ;go_wp2_with fail;exact bodyPost_ret (v:=aM aP) (by simp[results,Tryz.results22,go_sem,bB,aM,aw,aP,cP,bo]) rfl ⟨by rw[ed.out],(hB.setCell hz _).setCell hz _⟩
      ·skip
       go_wp2_with fail;refine(dH a 2 _).mono ?_;rintro e T5 ⟨rfl,b5⟩;dsimp only;clear Ya Yb;replace HX:=HX.later b5;replace HZ:=HZ.later b5;replace H7:=H7.later b5;replace H8:=H8.later b5;replace hB:=ae.then hB b5
       clear b5 x0 x1 x2 x3 x4 x5 x6;have x0:=HX.cell 0;have x1:=HX.cell 1;have x2:=HX.cell 2;have x3:=HX.cell 3;have x4:=HX.cell 4;have x5:=HX.cell 5;have x6:=HX.cell 6;simp only[List.getElem?_toArray,List.getElem?_cons_zero,List.getElem?_cons_succ] at x0 x1 x2 x3 x4 x5 x6;have Ya:=ax H7;have Yb:=ax H8;unfold bp at Ya Yb;cases la:(a.op==1 && a.v.k==2)
       ·skip
        have ed:=hid (show eH op aq a b=aP by simp only[eH,ML,zO,hne,ia,lb,ib,la];simp);go_wp2_with fail;refine(cS _).mono ?_;rintro e TT ⟨rfl,b5⟩;replace HZ:=HZ.later b5;replace hB:=ae.then hB b5
        have bB:=ai HZ;have cX:=ah.frozen HZ;clear HZ;go_wp2_with fail;exact bodyPost_ret (v:=aM aP) (by simp[results,Tryz.results22,go_sem,bB,aM,aw,aP,cP,bo]) rfl ⟨by rw[ed.out],(hB.setCell hz _).setCell hz _⟩
       ·skip
        exact absurd la (by simp only[Bool.and_eq_true,beq_iff_eq] at ia;simp[ia.1])
     ·skip
      have ed:=hid (show eH op aq a b=nP op b.v.n by simp only[eH,ML,zO,hne,ia,lb];simp);go_wp2_with fail;refine(Xf hne _).mono ?_;rintro e TT ⟨rfl,b5⟩;replace HZ:=HZ.later b5;replace hB:=ae.then hB b5
      generalize nP op b.v.n=s at*;unfold aM;have bB:=ai HZ;have cX:=ah.frozen HZ;clear HZ;go_wp2_with fail;exact bodyPost_ret (v:=aM s) (by simp[results,Tryz.results22,go_sem,bB,aM,aw,aP,cP,bo]) rfl ⟨by rw[ed.out],(hB.setCell hz _).setCell hz _⟩
  ·skip
   have ed:=hid (show eH op aq a b=aw by simp only[eH,ML,zO];simp);have bB:=ai HZ;have cX:=ah.frozen HZ;clear HZ;go_wp2_with fail;exact bodyPost_ret (v:=aM aw) (by simp[results,Tryz.results22,go_sem,bB,aM,aw,aP,cP,bo]) rfl ⟨by rw[ed.out],(hB.setCell hz _).setCell hz _⟩
 ·skip
  have ed:=hid (show eH op aq a b=aw by simp only[eH,ML];simp);have bB:=ai HZ;have cX:=ah.frozen HZ;clear HZ;go_wp2_with fail;exact bodyPost_ret (v:=aM aw) (by simp[results,Tryz.results22,go_sem,bB,aM,aw,aP,cP,bo]) rfl ⟨by rw[ed.out],(hB.setCell hz _).setCell hz _⟩
end Go.Proofs.YtfmbcoeallmnnaaGreatDoor
