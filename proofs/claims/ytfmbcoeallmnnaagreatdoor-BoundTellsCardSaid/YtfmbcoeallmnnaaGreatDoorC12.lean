/- Parts of the proof. -/
import Derived.Test.YtfmbcoeallmnnaaGreatDoorC10
import Derived.Test.YtfmbcoeallmnnaaGreatDoorC11
namespace Go.Proofs.YtfmbcoeallmnnaaGreatDoor
open Go.Lib (hid)
open Go.ChangeShapes Go.WideShapes Go.ChangeAt Go.RowKit
set_option linter.unusedVariables false
set_option linter.unusedSimpArgs false
def bD (y:Ex):Tr:=.mk y.op y.v y.name y.width []
def fQ (v:Val):Value:=.agg #[.int .u8 v.k,.int .i64 v.n,.string v.s]
def gq (op:Int)(aq:ByteArray)(a b:Ex)(w:World)(e:Ending)(w':World):Prop:=
 e=.returned (.tuple #[.int .u8 (bj op aq (bD a) (bD b)).1,fQ (bj op aq (bD a) (bD b)).2.1,.bool (bj op aq (bD a) (bD b)).2.2])∧Below w.heap.size w w'
theorem RE.two {w:World} {B:Nat} {A:Option Addr} {a b:Ex}(h:RE w B A [a,b]):∃q off,A=some ⟨q,off,none⟩∧q < B∧bp w q off a∧bp w q (off+7) b:=by
 rcases h with h |⟨q,off,h1,h2,h3⟩
 ·cases h
 ·exact⟨q,off,h1,h2,h3 0 a rfl,h3 1 b rfl⟩
theorem dM:(Tryz.prog.info? 34).map (·.size)=some 7:=by kernel_rfl
def tz:List (Int×Value):=[(12,.int .u8 14),(14,.int .u8 12),(13,.int .u8 15),(15,.int .u8 13)]
theorem kx {op:Int}(h2:op≠12)(h3:op≠13)(h4:op≠14)(h5:op≠15):tz.lookup op=none∧ez op=op:=by
 constructor
 ·simp only[tz,List.lookup,beq_eq_false_iff_ne.2 h2,beq_eq_false_iff_ne.2 h3,beq_eq_false_iff_ne.2 h4,beq_eq_false_iff_ne.2 h5]
 ·simp[ez,h2,h3,h4,h5]
set_option maxHeartbeats 40000000
set_option maxRecDepth 100000
theorem eN (lO:Int)(yv:Val)(ft:ByteArray)(dL:Int)(A:Option Addr)(n c:Nat)(a b:Ex)(aq:ByteArray)(w:World)(hn:n=2)(hA:RE w w.heap.size A [a,b]):
  Calls Tryz.prog 30 #[.agg #[.int .u8 lO,.int .u8 yv.k,.int .i64 yv.n,.string yv.s,.string ft,.int .i64 dL,.slice A n c],.string aq] w (gq lO aq a b w):=by
 subst hn;obtain⟨q,off,rfl,hq,jk,jl⟩:=hA.two;unfold gq;obtain⟨S,hS⟩:∃S,S=bj lO aq (bD a) (bD b):=⟨_,rfl⟩;rw[← hS];have Jm:=hid hS;clear hS hA;have HX:=ah.new w 34 #[.int .u8 lO,.int .u8 yv.k,.int .i64 yv.n,.string yv.s,.string ft,.int .i64 dL,.slice (some ⟨q,off,none⟩) 2 c];have hb0:=aa w (.cells #[.int .u8 lO,.int .u8 yv.k,.int .i64 yv.n,.string yv.s,.string ft,.int .i64 dL,.slice (some ⟨q,off,none⟩) 2 c] 34);have HR:=(ah.new (w.alloc (.cells #[.int .u8 lO,.int .u8 yv.k,.int .i64 yv.n,.string yv.s,.string ft,.int .i64 dL,.slice (some ⟨q,off,none⟩) 2 c] 34)) 26 #[.int .u8 0,.int .i64 0,.string ⟨#[]⟩]);have hb1:=aa (w.alloc (.cells #[.int .u8 lO,.int .u8 yv.k,.int .i64 yv.n,.string yv.s,.string ft,.int .i64 dL,.slice (some ⟨q,off,none⟩) 2 c] 34)) (.cells #[.int .u8 0,.int .i64 0,.string ⟨#[]⟩] 26);replace HX:=HX.later hb1;have hB:=ae.then hb0 hb1
 clear hb0 hb1;rw[World.size_alloc] at HR;go_enter Tryz.func30,Tryz.ntmps30;go_upto_region 1 with fail
 generalize World.alloc (World.alloc w _) _=W at*;have x0:=HX.cell 0;have x6:=HX.cell 6;simp only[List.getElem?_toArray,List.getElem?_cons_zero,List.getElem?_cons_succ] at x0 x6;have ea:bp W q off a:=jk.keep fun o=>hB.cell (p:=⟨q,o,none⟩) hq
 have eb:bp W q (off+7) b:=jl.keep fun o=>hB.cell (p:=⟨q,o,none⟩) hq
 have lx:=HX.lt;have lq:q < W.heap.size:=Nat.lt_of_lt_of_le hq hB.size;unfold bp at ea eb;obtain⟨gx,hgx⟩:∃gx,gx=w.heap.size:=⟨_,rfl⟩;rw[← hgx] at x0 x6 lx HX HR ⊢;have q0:=fun(w3:World) (hb:Below W.heap.size W w3)=>(hb.cell (p:=⟨gx,0,none⟩) lx).trans x0
 have q6:=fun(w3:World) (hb:Below W.heap.size W w3)=>(hb.cell (p:=⟨gx,6,none⟩) lx).trans x6
 have qa:=fun(w3:World) (hb:Below W.heap.size W w3)=>(jk.keep fun o=>hB.cell (p:=⟨q,o,none⟩) hq).keep fun o=>hb.cell (p:=⟨q,o,none⟩) lq
 have qb:=fun(w3:World) (hb:Below W.heap.size W w3)=>(jl.keep fun o=>hB.cell (p:=⟨q,o,none⟩) hq).keep fun o=>hb.cell (p:=⟨q,o,none⟩) lq
 unfold bp at qa qb;refine dR 15 (fun i=>([.pointer (some ⟨gx,6,none⟩),.slice (some ⟨q,off,none⟩) 2 c,.pointer (some ⟨q,off,none⟩),.agg #[.int .u8 a.op,.int .u8 a.v.k,.int .i64 a.v.n,.string a.v.s,.string a.name,.int .i64 a.width,.slice a.A a.n a.c],.pointer (some ⟨gx,6,none⟩),.slice (some ⟨q,off,none⟩) 2 c,.pointer (some ⟨q,off+7,none⟩),.agg #[.int .u8 b.op,.int .u8 b.v.k,.int .i64 b.v.n,.string b.v.s,.string b.name,.int .i64 b.width,.slice b.A b.n b.c],.pointer (some ⟨gx,0,none⟩),.int .u8 lO,undef,undef,undef,undef,.int .u8 lO]:List Value).getD i undef) [⟨10,34,#[.int .u8 0,.int .u8 0,.int .i64 0,.string ⟨#[]⟩,.string ⟨#[]⟩,.int .i64 0,.slice none 0 0],12,#[.int .u8 a.op,.int .u8 a.v.k,.int .i64 a.v.n,.string a.v.s,.string a.name,.int .i64 a.width,.slice a.A a.n a.c]⟩,⟨11,34,#[.int .u8 0,.int .u8 0,.int .i64 0,.string ⟨#[]⟩,.string ⟨#[]⟩,.int .i64 0,.slice none 0 0],13,#[.int .u8 b.op,.int .u8 b.v.k,.int .i64 b.v.n,.string b.v.s,.string b.name,.int .i64 b.width,.slice b.A b.n b.c]⟩] [] (by kernel_rfl) (by kernel_rfl) (by kernel_rfl) (by kernel_rfl) (by kernel_rfl) ?_ ?_
 ·simp only[List.take_succ_cons,List.take_zero];refine⟨?_,?_,?_,?_,?_,?_,?_,?_,?_,?_,?_,?_,?_,?_,?_,trivial⟩
  ·refine ag rfl rfl rfl fun ρ w3 hc hb hr=>?_
   have h0:ρ (.tmp 2)=.pointer (some ⟨gx,0,none⟩):=hr.1;show(execOp ρ _).run _ w3=.ok (.value (.pointer (some ⟨gx,6,none⟩))) w3;simp[go_sem,hc.const,h0]
  ·refine ag rfl rfl rfl fun ρ w3 hc hb hr=>?_
   have h0:ρ (.tmp 12)=.pointer (some ⟨gx,6,none⟩):=hr.1 (by kernel_rfl);show(execOp ρ _).run _ w3=.ok (.value (.slice (some ⟨q,off,none⟩) 2 c)) w3;simp[go_sem,hc.const,h0,q0 w3 hb,q6 w3 hb,qa w3 hb,qb w3 hb]
  ·refine ag rfl rfl rfl fun ρ w3 hc hb hr=>?_
   have h0:ρ (.tmp 13)=.slice (some ⟨q,off,none⟩) 2 c:=hr.1 (by kernel_rfl);show(execOp ρ _).run _ w3=.ok (.value (.pointer (some ⟨q,off,none⟩))) w3;simp[go_sem,hc.const,h0]
  ·refine ag rfl rfl rfl fun ρ w3 hc hb hr=>?_
   have h0:ρ (.tmp 14)=.pointer (some ⟨q,off,none⟩):=hr.1 (by kernel_rfl);show(execOp ρ _).run _ w3=.ok (.value (.agg #[.int .u8 a.op,.int .u8 a.v.k,.int .i64 a.v.n,.string a.v.s,.string a.name,.int .i64 a.width,.slice a.A a.n a.c])) w3;simp[go_sem,hc.const,h0,q0 w3 hb,q6 w3 hb,qa w3 hb,qb w3 hb]
  ·refine ag rfl rfl rfl fun ρ w3 hc hb hr=>?_
   have h0:ρ (.tmp 2)=.pointer (some ⟨gx,0,none⟩):=hr.1;show(execOp ρ _).run _ w3=.ok (.value (.pointer (some ⟨gx,6,none⟩))) w3;simp[go_sem,hc.const,h0]
  ·refine ag rfl rfl rfl fun ρ w3 hc hb hr=>?_
   have h0:ρ (.tmp 16)=.pointer (some ⟨gx,6,none⟩):=hr.1 (by kernel_rfl);show(execOp ρ _).run _ w3=.ok (.value (.slice (some ⟨q,off,none⟩) 2 c)) w3;simp[go_sem,hc.const,h0,q0 w3 hb,q6 w3 hb,qa w3 hb,qb w3 hb]
  ·refine ag rfl rfl rfl fun ρ w3 hc hb hr=>?_
   have h0:ρ (.tmp 17)=.slice (some ⟨q,off,none⟩) 2 c:=hr.1 (by kernel_rfl);show(execOp ρ _).run _ w3=.ok (.value (.pointer (some ⟨q,off+7,none⟩))) w3;simp[go_sem,hc.const,h0]
  ·refine ag rfl rfl rfl fun ρ w3 hc hb hr=>?_
   have h0:ρ (.tmp 18)=.pointer (some ⟨q,off+7,none⟩):=hr.1 (by kernel_rfl);show(execOp ρ _).run _ w3=.ok (.value (.agg #[.int .u8 b.op,.int .u8 b.v.k,.int .i64 b.v.n,.string b.v.s,.string b.name,.int .i64 b.width,.slice b.A b.n b.c])) w3;simp[go_sem,hc.const,h0,q0 w3 hb,q6 w3 hb,qa w3 hb,qb w3 hb]
  ·refine ag rfl rfl rfl fun ρ w3 hc hb hr=>?_
   have h0:ρ (.tmp 2)=.pointer (some ⟨gx,0,none⟩):=hr.1;show(execOp ρ _).run _ w3=.ok (.value (.pointer (some ⟨gx,0,none⟩))) w3;simp[go_sem,hc.const,h0]
  ·refine ag rfl rfl rfl fun ρ w3 hc hb hr=>?_
   have h0:ρ (.tmp 20)=.pointer (some ⟨gx,0,none⟩):=hr.1 (by kernel_rfl);show(execOp ρ _).run _ w3=.ok (.value (.int .u8 lO)) w3;simp[go_sem,hc.const,h0,q0 w3 hb,q6 w3 hb,qa w3 hb,qb w3 hb]
  ·exact cY _ rfl rfl fun ρ w3 hc=>by first | rfl | simp[go_sem]
  ·exact cY _ rfl rfl fun ρ w3 hc=>by first | rfl | simp[go_sem]
  ·refine gp _ 34 (.tmp 7) (.tmp 15) rfl rfl rfl rfl (by kernel_rfl) (by kernel_rfl) (by kernel_rfl) (by kernel_rfl) fun ρ w3 gg hc hr=>?_
   have h0:ρ (.tmp 7)=.pointer (some ⟨gg,0,none⟩):=hr.1;have h1:ρ (.tmp 15)=.agg #[.int .u8 a.op,.int .u8 a.v.k,.int .i64 a.v.n,.string a.v.s,.string a.name,.int .i64 a.width,.slice a.A a.n a.c]:=hr.2.1 (by kernel_rfl);exact⟨h0,h1⟩
  ·refine gp _ 34 (.tmp 8) (.tmp 19) rfl rfl rfl rfl (by kernel_rfl) (by kernel_rfl) (by kernel_rfl) (by kernel_rfl) fun ρ w3 gg hc hr=>?_
   have h0:ρ (.tmp 8)=.pointer (some ⟨gg,0,none⟩):=hr.1;have h1:ρ (.tmp 19)=.agg #[.int .u8 b.op,.int .u8 b.v.k,.int .i64 b.v.n,.string b.v.s,.string b.name,.int .i64 b.width,.slice b.A b.n b.c]:=hr.2.1 (by kernel_rfl);exact⟨h0,h1⟩
  ·refine ag rfl rfl rfl fun ρ w3 hc hb hr=>?_
   have h0:ρ (.tmp 21)=.int .u8 lO:=hr.1 (by kernel_rfl);show(execOp ρ _).run _ w3=.ok (.value (.int .u8 lO)) w3;simp[go_sem,hc.const,h0]
 intro W2 gg hb2 hbl hne;have H7:ah W2 (gg 10) 34 #[.int .u8 a.op,.int .u8 a.v.k,.int .i64 a.v.n,.string a.v.s,.string a.name,.int .i64 a.width,.slice a.A a.n a.c]:=(hbl _ (.head _)).2;have l7:W.heap.size≤gg 10:=(hbl _ (.head _)).1;have vd:gg 10≠gg 11:=hne _ (.head _) _ (.tail _ (.head _)) (show(10:Nat)≠11 by decide);have H8:ah W2 (gg 11) 34 #[.int .u8 b.op,.int .u8 b.v.k,.int .i64 b.v.n,.string b.v.s,.string b.name,.int .i64 b.width,.slice b.A b.n b.c]:=(hbl _ (.tail _ (.head _))).2;have l8:W.heap.size≤gg 11:=(hbl _ (.tail _ (.head _))).1;clear hbl hne;simp only[List.take_succ_cons,List.take_zero,List.drop_succ_cons,List.drop_zero,tR,List.getD_cons_zero,List.getD_cons_succ,List.any_cons,List.any_nil,Act.put,List.setIfInBounds_toArray,List.set_cons_succ,List.set_cons_zero,Nat.reduceBEq,Nat.reduceAdd,Nat.zero_add,Bool.or_false,Bool.false_or,Bool.or_true,Bool.true_or,Bool.or_self,if_true,if_false,ite_true,ite_false,Bool.false_eq_true,beq_self_eq_true];generalize gg 10=g7 at*;generalize gg 11=g8 at*;clear gg;have lr:=HR.lt;have Mx:w.heap.size≤gx+1:=by omega
 have Tx:gx+1≠g7:=by omega
 have Ty:gx+1≠g8:=by omega
 have Tz:w.heap.size≤g7:=Nat.le_trans hB.size l7;have TA:w.heap.size≤g8:=Nat.le_trans hB.size l8;replace HR:=HR.later hb2;have di:=ae.then hB hb2
 clear q0 q6 qa qb jk jl ea eb x0 x6 hb2 HX hB lr lx lq hq l7 l8 hgx;generalize gx+1=gr at*;have b0:=H8.cell 0;have b4:=H8.cell 4;simp only[List.getElem?_toArray,List.getElem?_cons_zero,List.getElem?_cons_succ] at b0 b4;have Qk:=hid HR;have WY:=hid H7;have WZ:=hid H8;have Xa:=hid di;clear HR H7 H8 di;have h5:eK aq (bD b)=(b.op==2 && b.name.toList==aq.toList):=rfl;generalize eK aq (bD b)=hc at h5;have H5:=hid h5;clear h5;go_upto_region 2 with fail
 go_cut [30] (fun s wx=>s=.bool hc∧wx=W2);case first=>
  cases h1:(b.op==2)
  ·go_wp2_with fail;go_meet;exact⟨by rw[H5.out,h1];rfl,rfl⟩
  ·go_wp2_with fail;go_meet;exact⟨by rw[H5.out,h1];rfl,rfl⟩
 case rest=>
 obtain⟨rfl,hwc⟩:=hcut;subst wc;go_upto_if 30 with fail
 go_cut [9] (fun s wx=>∃(op:Int) (p q:Ex),s=.int .u8 op∧ah wx g7 34 #[.int .u8 p.op,.int .u8 p.v.k,.int .i64 p.v.n,.string p.v.s,.string p.name,.int .i64 p.width,.slice p.A p.n p.c]∧ah wx g8 34 #[.int .u8 q.op,.int .u8 q.v.k,.int .i64 q.v.n,.string q.v.s,.string q.name,.int .i64 q.width,.slice q.A q.n q.c]∧ah wx gr 26 #[.int .u8 0,.int .i64 0,.string ⟨#[]⟩]∧Below w.heap.size w wx∧S=(op,q.v,eK aq (bD p)&& q.op==1));case first=>
  cases hc
  ·have h5:eK aq (bD b)=false:=H5.out.symm;go_wp2_with fail;go_meet;exact⟨lO,a,b,rfl,WY.out,WZ.out,Qk.out,Xa.out,by rw[Jm.out];simp only[bj,h5];rfl⟩
  ·have h5:eK aq (bD b)=true:=H5.out.symm;have HR:=Qk.out;have H7:=WY.out;have H8:=WZ.out;have di:=Xa.out;clear Qk WY WZ Xa;go_upto_region 3 with fail
   clear b0 b4;have n7:some g7≠some W2.heap.size:=fun e=>by injection e with e;have:=H7.lt;omega
   have n8:some g8≠some W2.heap.size:=fun e=>by injection e with e;have:=H8.lt;omega
   have nr:some gr≠some W2.heap.size:=fun e=>by injection e with e;have:=HR.lt;omega
   have hw:w.heap.size≤W2.heap.size:=di.size;have hM:=qc.new W2;have hBm:=aa W2 (.map #[] 0);replace H7:=H7.later hBm;replace H8:=H8.later hBm;replace HR:=HR.later hBm;replace di:=ae.then di hBm
   clear hBm;refine wp_region_lit ?_;refine pH rfl 98 rfl ?_;generalize W2.heap.size=gm at*;generalize W2.alloc _=W3 at*;refine iE Tryz.underlying98 Tryz.underlying5 rfl _ _ _ rfl gm rfl 12 rfl (.int .u8 14) rfl hM (by rfl) ?_;clear hM;intro wm hM hgr;replace H7:=H7.grown hgr n7;replace H8:=H8.grown hgr n8;replace HR:=HR.grown hgr nr;replace di:=di.trans (iF hgr di.size hw);clear hgr;refine iE Tryz.underlying98 Tryz.underlying5 rfl _ _ _ rfl gm rfl 14 rfl (.int .u8 12) rfl hM (by rfl) ?_;clear hM;intro wm hM hgr;replace H7:=H7.grown hgr n7;replace H8:=H8.grown hgr n8;replace HR:=HR.grown hgr nr;replace di:=di.trans (iF hgr di.size hw);clear hgr;refine iE Tryz.underlying98 Tryz.underlying5 rfl _ _ _ rfl gm rfl 13 rfl (.int .u8 15) rfl hM (by rfl) ?_;clear hM;intro wm hM hgr;replace H7:=H7.grown hgr n7;replace H8:=H8.grown hgr n8;replace HR:=HR.grown hgr nr;replace di:=di.trans (iF hgr di.size hw);clear hgr;refine iE Tryz.underlying98 Tryz.underlying5 rfl _ _ _ rfl gm rfl 15 rfl (.int .u8 13) rfl hM (by rfl) ?_;clear hM;intro wm hM hgr;replace H7:=H7.grown hgr n7;replace H8:=H8.grown hgr n8;replace HR:=HR.grown hgr nr;replace di:=di.trans (iF hgr di.size hw);clear hgr;change qc wm gm tz at hM;simp only[Act.put,List.setIfInBounds_toArray,List.set_cons_succ,List.set_cons_zero];by_cases Ql:lO=12
   ·as_aux_lemma=>
     subst Ql;have lk:tz.lookup 12=some (.int .u8 14):=rfl;go_wp2_with (first
      |(refine fP Tryz.underlying98 Tryz.underlying5 rfl (.tmp 33) (.tmp 34) rfl gm rfl 12 rfl hM (z:=.int .u8 0) (fun w=>by kernel_rfl) ?_
        rw[lk]
        dsimp only[Option.getD,Option.isSome])
      |(refine wpList_load_row rfl 34 (.tmp 8) rfl g8 rfl 34 #[.int .u8 b.op,.int .u8 b.v.k,.int .i64 b.v.n,.string b.v.s,.string b.name,.int .i64 b.width,.slice b.A b.n b.c] (0,0) _ H8 Tryz.underlying34 rfl dM ?_)
      |(refine wpList_load_row rfl 34 (.tmp 7) rfl g7 rfl 34 #[.int .u8 a.op,.int .u8 a.v.k,.int .i64 a.v.n,.string a.v.s,.string a.name,.int .i64 a.width,.slice a.A a.n a.c] (0,0) _ H7 Tryz.underlying34 rfl dM ?_)
      |(refine wpList_store_row rfl 34 (.tmp 7) (.tmp 40) rfl g7 #[.int .u8 b.op,.int .u8 b.v.k,.int .i64 b.v.n,.string b.v.s,.string b.name,.int .i64 b.width,.slice b.A b.n b.c] rfl rfl 34 #[.int .u8 a.op,.int .u8 a.v.k,.int .i64 a.v.n,.string a.v.s,.string a.name,.int .i64 a.width,.slice a.A a.n a.c] H7 dM rfl (by kernel_rfl) ?_
        replace H8:=cG H8 (fun e=>vd e.symm) #[.int .u8 b.op,.int .u8 b.v.k,.int .i64 b.v.n,.string b.v.s,.string b.name,.int .i64 b.width,.slice b.A b.n b.c]
        replace HR:=cG HR Tx #[.int .u8 b.op,.int .u8 b.v.k,.int .i64 b.v.n,.string b.v.s,.string b.name,.int .i64 b.width,.slice b.A b.n b.c]
        replace di:=dI di Tz #[.int .u8 b.op,.int .u8 b.v.k,.int .i64 b.v.n,.string b.v.s,.string b.name,.int .i64 b.width,.slice b.A b.n b.c]
        replace H7:=gO H7 #[.int .u8 b.op,.int .u8 b.v.k,.int .i64 b.v.n,.string b.v.s,.string b.name,.int .i64 b.width,.slice b.A b.n b.c]
        clear hM
        generalize World.setRow _ _ _=VQ at*)
      |(refine wpList_store_row rfl 34 (.tmp 8) (.tmp 41) rfl g8 #[.int .u8 a.op,.int .u8 a.v.k,.int .i64 a.v.n,.string a.v.s,.string a.name,.int .i64 a.width,.slice a.A a.n a.c] rfl rfl 34 #[.int .u8 b.op,.int .u8 b.v.k,.int .i64 b.v.n,.string b.v.s,.string b.name,.int .i64 b.width,.slice b.A b.n b.c] H8 dM rfl (by kernel_rfl) ?_
        replace H7:=cG H7 vd #[.int .u8 a.op,.int .u8 a.v.k,.int .i64 a.v.n,.string a.v.s,.string a.name,.int .i64 a.width,.slice a.A a.n a.c]
        replace HR:=cG HR Ty #[.int .u8 a.op,.int .u8 a.v.k,.int .i64 a.v.n,.string a.v.s,.string a.name,.int .i64 a.width,.slice a.A a.n a.c]
        replace di:=dI di TA #[.int .u8 a.op,.int .u8 a.v.k,.int .i64 a.v.n,.string a.v.s,.string a.name,.int .i64 a.width,.slice a.A a.n a.c]
        replace H8:=gO H8 #[.int .u8 a.op,.int .u8 a.v.k,.int .i64 a.v.n,.string a.v.s,.string a.name,.int .i64 a.width,.slice a.A a.n a.c]
        generalize World.setRow _ _ _=wr2 at*))
     go_meet;exact⟨14,b,a,rfl,H7,H8,HR,di,by rw[Jm.out];simp only[bj,h5,ite_true];first | rfl |(rw[(kx Ql Qm Qn Qo).2];rfl)⟩
   by_cases Qm:lO=13
   ·as_aux_lemma=>
     subst Qm;have lk:tz.lookup 13=some (.int .u8 15):=rfl;go_wp2_with (first
      |(refine fP Tryz.underlying98 Tryz.underlying5 rfl (.tmp 33) (.tmp 34) rfl gm rfl 13 rfl hM (z:=.int .u8 0) (fun w=>by kernel_rfl) ?_
        rw[lk]
        dsimp only[Option.getD,Option.isSome])
      |(refine wpList_load_row rfl 34 (.tmp 8) rfl g8 rfl 34 #[.int .u8 b.op,.int .u8 b.v.k,.int .i64 b.v.n,.string b.v.s,.string b.name,.int .i64 b.width,.slice b.A b.n b.c] (0,0) _ H8 Tryz.underlying34 rfl dM ?_)
      |(refine wpList_load_row rfl 34 (.tmp 7) rfl g7 rfl 34 #[.int .u8 a.op,.int .u8 a.v.k,.int .i64 a.v.n,.string a.v.s,.string a.name,.int .i64 a.width,.slice a.A a.n a.c] (0,0) _ H7 Tryz.underlying34 rfl dM ?_)
      |(refine wpList_store_row rfl 34 (.tmp 7) (.tmp 40) rfl g7 #[.int .u8 b.op,.int .u8 b.v.k,.int .i64 b.v.n,.string b.v.s,.string b.name,.int .i64 b.width,.slice b.A b.n b.c] rfl rfl 34 #[.int .u8 a.op,.int .u8 a.v.k,.int .i64 a.v.n,.string a.v.s,.string a.name,.int .i64 a.width,.slice a.A a.n a.c] H7 dM rfl (by kernel_rfl) ?_
        replace H8:=cG H8 (fun e=>vd e.symm) #[.int .u8 b.op,.int .u8 b.v.k,.int .i64 b.v.n,.string b.v.s,.string b.name,.int .i64 b.width,.slice b.A b.n b.c]
        replace HR:=cG HR Tx #[.int .u8 b.op,.int .u8 b.v.k,.int .i64 b.v.n,.string b.v.s,.string b.name,.int .i64 b.width,.slice b.A b.n b.c]
        replace di:=dI di Tz #[.int .u8 b.op,.int .u8 b.v.k,.int .i64 b.v.n,.string b.v.s,.string b.name,.int .i64 b.width,.slice b.A b.n b.c]
        replace H7:=gO H7 #[.int .u8 b.op,.int .u8 b.v.k,.int .i64 b.v.n,.string b.v.s,.string b.name,.int .i64 b.width,.slice b.A b.n b.c]
        clear hM
        generalize World.setRow _ _ _=VQ at*)
      |(refine wpList_store_row rfl 34 (.tmp 8) (.tmp 41) rfl g8 #[.int .u8 a.op,.int .u8 a.v.k,.int .i64 a.v.n,.string a.v.s,.string a.name,.int .i64 a.width,.slice a.A a.n a.c] rfl rfl 34 #[.int .u8 b.op,.int .u8 b.v.k,.int .i64 b.v.n,.string b.v.s,.string b.name,.int .i64 b.width,.slice b.A b.n b.c] H8 dM rfl (by kernel_rfl) ?_
        replace H7:=cG H7 vd #[.int .u8 a.op,.int .u8 a.v.k,.int .i64 a.v.n,.string a.v.s,.string a.name,.int .i64 a.width,.slice a.A a.n a.c]
        replace HR:=cG HR Ty #[.int .u8 a.op,.int .u8 a.v.k,.int .i64 a.v.n,.string a.v.s,.string a.name,.int .i64 a.width,.slice a.A a.n a.c]
        replace di:=dI di TA #[.int .u8 a.op,.int .u8 a.v.k,.int .i64 a.v.n,.string a.v.s,.string a.name,.int .i64 a.width,.slice a.A a.n a.c]
        replace H8:=gO H8 #[.int .u8 a.op,.int .u8 a.v.k,.int .i64 a.v.n,.string a.v.s,.string a.name,.int .i64 a.width,.slice a.A a.n a.c]
        generalize World.setRow _ _ _=wr2 at*))
     go_meet;exact⟨15,b,a,rfl,H7,H8,HR,di,by rw[Jm.out];simp only[bj,h5,ite_true];first | rfl |(rw[(kx Ql Qm Qn Qo).2];rfl)⟩
   by_cases Qn:lO=14
   ·as_aux_lemma=>
     subst Qn;have lk:tz.lookup 14=some (.int .u8 12):=rfl;go_wp2_with (first
      |(refine fP Tryz.underlying98 Tryz.underlying5 rfl (.tmp 33) (.tmp 34) rfl gm rfl 14 rfl hM (z:=.int .u8 0) (fun w=>by kernel_rfl) ?_
        rw[lk]
        dsimp only[Option.getD,Option.isSome])
      |(refine wpList_load_row rfl 34 (.tmp 8) rfl g8 rfl 34 #[.int .u8 b.op,.int .u8 b.v.k,.int .i64 b.v.n,.string b.v.s,.string b.name,.int .i64 b.width,.slice b.A b.n b.c] (0,0) _ H8 Tryz.underlying34 rfl dM ?_)
      |(refine wpList_load_row rfl 34 (.tmp 7) rfl g7 rfl 34 #[.int .u8 a.op,.int .u8 a.v.k,.int .i64 a.v.n,.string a.v.s,.string a.name,.int .i64 a.width,.slice a.A a.n a.c] (0,0) _ H7 Tryz.underlying34 rfl dM ?_)
      |(refine wpList_store_row rfl 34 (.tmp 7) (.tmp 40) rfl g7 #[.int .u8 b.op,.int .u8 b.v.k,.int .i64 b.v.n,.string b.v.s,.string b.name,.int .i64 b.width,.slice b.A b.n b.c] rfl rfl 34 #[.int .u8 a.op,.int .u8 a.v.k,.int .i64 a.v.n,.string a.v.s,.string a.name,.int .i64 a.width,.slice a.A a.n a.c] H7 dM rfl (by kernel_rfl) ?_
        replace H8:=cG H8 (fun e=>vd e.symm) #[.int .u8 b.op,.int .u8 b.v.k,.int .i64 b.v.n,.string b.v.s,.string b.name,.int .i64 b.width,.slice b.A b.n b.c]
        replace HR:=cG HR Tx #[.int .u8 b.op,.int .u8 b.v.k,.int .i64 b.v.n,.string b.v.s,.string b.name,.int .i64 b.width,.slice b.A b.n b.c]
        replace di:=dI di Tz #[.int .u8 b.op,.int .u8 b.v.k,.int .i64 b.v.n,.string b.v.s,.string b.name,.int .i64 b.width,.slice b.A b.n b.c]
        replace H7:=gO H7 #[.int .u8 b.op,.int .u8 b.v.k,.int .i64 b.v.n,.string b.v.s,.string b.name,.int .i64 b.width,.slice b.A b.n b.c]
        clear hM
        generalize World.setRow _ _ _=VQ at*)
      |(refine wpList_store_row rfl 34 (.tmp 8) (.tmp 41) rfl g8 #[.int .u8 a.op,.int .u8 a.v.k,.int .i64 a.v.n,.string a.v.s,.string a.name,.int .i64 a.width,.slice a.A a.n a.c] rfl rfl 34 #[.int .u8 b.op,.int .u8 b.v.k,.int .i64 b.v.n,.string b.v.s,.string b.name,.int .i64 b.width,.slice b.A b.n b.c] H8 dM rfl (by kernel_rfl) ?_
        replace H7:=cG H7 vd #[.int .u8 a.op,.int .u8 a.v.k,.int .i64 a.v.n,.string a.v.s,.string a.name,.int .i64 a.width,.slice a.A a.n a.c]
        replace HR:=cG HR Ty #[.int .u8 a.op,.int .u8 a.v.k,.int .i64 a.v.n,.string a.v.s,.string a.name,.int .i64 a.width,.slice a.A a.n a.c]
        replace di:=dI di TA #[.int .u8 a.op,.int .u8 a.v.k,.int .i64 a.v.n,.string a.v.s,.string a.name,.int .i64 a.width,.slice a.A a.n a.c]
        replace H8:=gO H8 #[.int .u8 a.op,.int .u8 a.v.k,.int .i64 a.v.n,.string a.v.s,.string a.name,.int .i64 a.width,.slice a.A a.n a.c]
        generalize World.setRow _ _ _=wr2 at*))
     go_meet;exact⟨12,b,a,rfl,H7,H8,HR,di,by rw[Jm.out];simp only[bj,h5,ite_true];first | rfl |(rw[(kx Ql Qm Qn Qo).2];rfl)⟩
   by_cases Qo:lO=15
   ·as_aux_lemma=>
     subst Qo;have lk:tz.lookup 15=some (.int .u8 13):=rfl;go_wp2_with (first
      |(refine fP Tryz.underlying98 Tryz.underlying5 rfl (.tmp 33) (.tmp 34) rfl gm rfl 15 rfl hM (z:=.int .u8 0) (fun w=>by kernel_rfl) ?_
        rw[lk]
        dsimp only[Option.getD,Option.isSome])
      |(refine wpList_load_row rfl 34 (.tmp 8) rfl g8 rfl 34 #[.int .u8 b.op,.int .u8 b.v.k,.int .i64 b.v.n,.string b.v.s,.string b.name,.int .i64 b.width,.slice b.A b.n b.c] (0,0) _ H8 Tryz.underlying34 rfl dM ?_)
      |(refine wpList_load_row rfl 34 (.tmp 7) rfl g7 rfl 34 #[.int .u8 a.op,.int .u8 a.v.k,.int .i64 a.v.n,.string a.v.s,.string a.name,.int .i64 a.width,.slice a.A a.n a.c] (0,0) _ H7 Tryz.underlying34 rfl dM ?_)
      |(refine wpList_store_row rfl 34 (.tmp 7) (.tmp 40) rfl g7 #[.int .u8 b.op,.int .u8 b.v.k,.int .i64 b.v.n,.string b.v.s,.string b.name,.int .i64 b.width,.slice b.A b.n b.c] rfl rfl 34 #[.int .u8 a.op,.int .u8 a.v.k,.int .i64 a.v.n,.string a.v.s,.string a.name,.int .i64 a.width,.slice a.A a.n a.c] H7 dM rfl (by kernel_rfl) ?_
        replace H8:=cG H8 (fun e=>vd e.symm) #[.int .u8 b.op,.int .u8 b.v.k,.int .i64 b.v.n,.string b.v.s,.string b.name,.int .i64 b.width,.slice b.A b.n b.c]
        replace HR:=cG HR Tx #[.int .u8 b.op,.int .u8 b.v.k,.int .i64 b.v.n,.string b.v.s,.string b.name,.int .i64 b.width,.slice b.A b.n b.c]
        replace di:=dI di Tz #[.int .u8 b.op,.int .u8 b.v.k,.int .i64 b.v.n,.string b.v.s,.string b.name,.int .i64 b.width,.slice b.A b.n b.c]
        replace H7:=gO H7 #[.int .u8 b.op,.int .u8 b.v.k,.int .i64 b.v.n,.string b.v.s,.string b.name,.int .i64 b.width,.slice b.A b.n b.c]
        clear hM
        generalize World.setRow _ _ _=VQ at*)
      |(refine wpList_store_row rfl 34 (.tmp 8) (.tmp 41) rfl g8 #[.int .u8 a.op,.int .u8 a.v.k,.int .i64 a.v.n,.string a.v.s,.string a.name,.int .i64 a.width,.slice a.A a.n a.c] rfl rfl 34 #[.int .u8 b.op,.int .u8 b.v.k,.int .i64 b.v.n,.string b.v.s,.string b.name,.int .i64 b.width,.slice b.A b.n b.c] H8 dM rfl (by kernel_rfl) ?_
        replace H7:=cG H7 vd #[.int .u8 a.op,.int .u8 a.v.k,.int .i64 a.v.n,.string a.v.s,.string a.name,.int .i64 a.width,.slice a.A a.n a.c]
        replace HR:=cG HR Ty #[.int .u8 a.op,.int .u8 a.v.k,.int .i64 a.v.n,.string a.v.s,.string a.name,.int .i64 a.width,.slice a.A a.n a.c]
        replace di:=dI di TA #[.int .u8 a.op,.int .u8 a.v.k,.int .i64 a.v.n,.string a.v.s,.string a.name,.int .i64 a.width,.slice a.A a.n a.c]
        replace H8:=gO H8 #[.int .u8 a.op,.int .u8 a.v.k,.int .i64 a.v.n,.string a.v.s,.string a.name,.int .i64 a.width,.slice a.A a.n a.c]
        generalize World.setRow _ _ _=wr2 at*))
     go_meet;exact⟨13,b,a,rfl,H7,H8,HR,di,by rw[Jm.out];simp only[bj,h5,ite_true];first | rfl |(rw[(kx Ql Qm Qn Qo).2];rfl)⟩
   ·as_aux_lemma=>
     have lk:tz.lookup lO=none:=(kx Ql Qm Qn Qo).1;go_wp2_with (first
      |(refine fP Tryz.underlying98 Tryz.underlying5 rfl (.tmp 33) (.tmp 34) rfl gm rfl lO rfl hM (z:=.int .u8 0) (fun w=>by kernel_rfl) ?_
        rw[lk]
        dsimp only[Option.getD,Option.isSome])
      |(refine wpList_load_row rfl 34 (.tmp 8) rfl g8 rfl 34 #[.int .u8 b.op,.int .u8 b.v.k,.int .i64 b.v.n,.string b.v.s,.string b.name,.int .i64 b.width,.slice b.A b.n b.c] (0,0) _ H8 Tryz.underlying34 rfl dM ?_)
      |(refine wpList_load_row rfl 34 (.tmp 7) rfl g7 rfl 34 #[.int .u8 a.op,.int .u8 a.v.k,.int .i64 a.v.n,.string a.v.s,.string a.name,.int .i64 a.width,.slice a.A a.n a.c] (0,0) _ H7 Tryz.underlying34 rfl dM ?_)
      |(refine wpList_store_row rfl 34 (.tmp 7) (.tmp 40) rfl g7 #[.int .u8 b.op,.int .u8 b.v.k,.int .i64 b.v.n,.string b.v.s,.string b.name,.int .i64 b.width,.slice b.A b.n b.c] rfl rfl 34 #[.int .u8 a.op,.int .u8 a.v.k,.int .i64 a.v.n,.string a.v.s,.string a.name,.int .i64 a.width,.slice a.A a.n a.c] H7 dM rfl (by kernel_rfl) ?_
        replace H8:=cG H8 (fun e=>vd e.symm) #[.int .u8 b.op,.int .u8 b.v.k,.int .i64 b.v.n,.string b.v.s,.string b.name,.int .i64 b.width,.slice b.A b.n b.c]
        replace HR:=cG HR Tx #[.int .u8 b.op,.int .u8 b.v.k,.int .i64 b.v.n,.string b.v.s,.string b.name,.int .i64 b.width,.slice b.A b.n b.c]
        replace di:=dI di Tz #[.int .u8 b.op,.int .u8 b.v.k,.int .i64 b.v.n,.string b.v.s,.string b.name,.int .i64 b.width,.slice b.A b.n b.c]
        replace H7:=gO H7 #[.int .u8 b.op,.int .u8 b.v.k,.int .i64 b.v.n,.string b.v.s,.string b.name,.int .i64 b.width,.slice b.A b.n b.c]
        clear hM
        generalize World.setRow _ _ _=VQ at*)
      |(refine wpList_store_row rfl 34 (.tmp 8) (.tmp 41) rfl g8 #[.int .u8 a.op,.int .u8 a.v.k,.int .i64 a.v.n,.string a.v.s,.string a.name,.int .i64 a.width,.slice a.A a.n a.c] rfl rfl 34 #[.int .u8 b.op,.int .u8 b.v.k,.int .i64 b.v.n,.string b.v.s,.string b.name,.int .i64 b.width,.slice b.A b.n b.c] H8 dM rfl (by kernel_rfl) ?_
        replace H7:=cG H7 vd #[.int .u8 a.op,.int .u8 a.v.k,.int .i64 a.v.n,.string a.v.s,.string a.name,.int .i64 a.width,.slice a.A a.n a.c]
        replace HR:=cG HR Ty #[.int .u8 a.op,.int .u8 a.v.k,.int .i64 a.v.n,.string a.v.s,.string a.name,.int .i64 a.width,.slice a.A a.n a.c]
        replace di:=dI di TA #[.int .u8 a.op,.int .u8 a.v.k,.int .i64 a.v.n,.string a.v.s,.string a.name,.int .i64 a.width,.slice a.A a.n a.c]
        replace H8:=gO H8 #[.int .u8 a.op,.int .u8 a.v.k,.int .i64 a.v.n,.string a.v.s,.string a.name,.int .i64 a.width,.slice a.A a.n a.c]
        generalize World.setRow _ _ _=wr2 at*))
     go_meet;exact⟨lO,b,a,rfl,H7,H8,HR,di,by rw[Jm.out];simp only[bj,h5,ite_true];first | rfl |(rw[(kx Ql Qm Qn Qo).2];rfl)⟩
 case rest=>
  obtain⟨Sq,xa,xb,rfl,H7,H8,HR,di,ED⟩:=hcut;have Jm:=hid ED;clear ED b0 b4
  skip
  have a0:=H7.cell 0;have a1:=H7.cell 1;have a2:=H7.cell 2;have a3:=H7.cell 3;have a4:=H7.cell 4;have a5:=H7.cell 5;have a6:=H7.cell 6;have b0:=H8.cell 0;have b1:=H8.cell 1;have b2:=H8.cell 2;have b3:=H8.cell 3;have b4:=H8.cell 4;have b5:=H8.cell 5;have b6:=H8.cell 6;have r0:=HR.cell 0;have r1:=HR.cell 1;have r2:=HR.cell 2;have rz:=HR.frozen;simp only[List.getElem?_toArray,List.getElem?_cons_zero,List.getElem?_cons_succ] at a0 a1 a2 a3 a4 a5 a6 b0 b1 b2 b3 b4 b5 b6 r0 r1 r2;cases h2:(xa.op==2)
  ·as_aux_lemma=>
    go_upto_region 7 with fail
    go_region;all_goals
     have HF:=((HR.cn 0 (.int .u8 xb.v.k)).cn 1 (.int .i64 xb.v.n)).cn 2 (.string xb.v.s);simp only[List.setIfInBounds_toArray,List.set_cons_succ,List.set_cons_zero] at HF;replace HF:=HF.later ((Below.refl _ _).drew);have hE:=ae.then (((di.setCell (p:=⟨gr,0,none⟩) Mx (.int .u8 xb.v.k)).setCell (p:=⟨gr,1,none⟩) Mx (.int .i64 xb.v.n)).setCell (p:=⟨gr,2,none⟩) Mx (.string xb.v.s)) ((Below.refl _ _).drew)
     have HS:=hid (show S=(Sq,xb.v,false) by
      rw[Jm.out]
      simp[eK,bD,Tr.op,Tr.name,h2])
     clear HR di H7 H8 rz a0 a1 a2 a3 a4 a5 a6 b0 b1 b2 b3 b4 b5 b6 r0 r1 r2;generalize World.drew _=W4 at*;have f0:=HF.cell 0;have f1:=HF.cell 1;have f2:=HF.cell 2;simp only[List.getElem?_toArray,List.getElem?_cons_zero,List.getElem?_cons_succ] at f0 f1 f2;go_wp2_with fail;exact bodyPost_ret (v:=.tuple #[.int .u8 (Sq),.agg #[.int .u8 xb.v.k,.int .i64 xb.v.n,.string xb.v.s],.bool (false)]) (by simp[results,Tryz.results30,go_sem,f0,f1,f2]) rfl ⟨by rw[HS.out];rfl,hE⟩
  ·cases h3:(xa.name.toList==aq.toList)
   ·as_aux_lemma=>
     go_upto_region 7 with fail
     go_region;all_goals
      have HF:=((HR.cn 0 (.int .u8 xb.v.k)).cn 1 (.int .i64 xb.v.n)).cn 2 (.string xb.v.s);simp only[List.setIfInBounds_toArray,List.set_cons_succ,List.set_cons_zero] at HF;replace HF:=HF.later ((Below.refl _ _).drew);have hE:=ae.then (((di.setCell (p:=⟨gr,0,none⟩) Mx (.int .u8 xb.v.k)).setCell (p:=⟨gr,1,none⟩) Mx (.int .i64 xb.v.n)).setCell (p:=⟨gr,2,none⟩) Mx (.string xb.v.s)) ((Below.refl _ _).drew)
      have HS:=hid (show S=(Sq,xb.v,false) by
       rw[Jm.out]
       simp[eK,bD,Tr.op,Tr.name,h2,h3])
      clear HR di H7 H8 rz a0 a1 a2 a3 a4 a5 a6 b0 b1 b2 b3 b4 b5 b6 r0 r1 r2;generalize World.drew _=W4 at*;have f0:=HF.cell 0;have f1:=HF.cell 1;have f2:=HF.cell 2;simp only[List.getElem?_toArray,List.getElem?_cons_zero,List.getElem?_cons_succ] at f0 f1 f2;go_wp2_with fail;exact bodyPost_ret (v:=.tuple #[.int .u8 (Sq),.agg #[.int .u8 xb.v.k,.int .i64 xb.v.n,.string xb.v.s],.bool (false)]) (by simp[results,Tryz.results30,go_sem,f0,f1,f2]) rfl ⟨by rw[HS.out];rfl,hE⟩
   ·as_aux_lemma=>
     go_upto_region 7 with fail
     go_region;all_goals
      have HF:=((HR.cn 0 (.int .u8 xb.v.k)).cn 1 (.int .i64 xb.v.n)).cn 2 (.string xb.v.s);simp only[List.setIfInBounds_toArray,List.set_cons_succ,List.set_cons_zero] at HF;replace HF:=HF.later ((Below.refl _ _).drew);have hE:=ae.then (((di.setCell (p:=⟨gr,0,none⟩) Mx (.int .u8 xb.v.k)).setCell (p:=⟨gr,1,none⟩) Mx (.int .i64 xb.v.n)).setCell (p:=⟨gr,2,none⟩) Mx (.string xb.v.s)) ((Below.refl _ _).drew)
      have HS:=hid (show S=(Sq,xb.v,xb.op==1) by
       rw[Jm.out]
       simp[eK,bD,Tr.op,Tr.name,h2,h3])
      clear HR di H7 H8 rz a0 a1 a2 a3 a4 a5 a6 b0 b1 b2 b3 b4 b5 b6 r0 r1 r2;generalize World.drew _=W4 at*;have f0:=HF.cell 0;have f1:=HF.cell 1;have f2:=HF.cell 2;simp only[List.getElem?_toArray,List.getElem?_cons_zero,List.getElem?_cons_succ] at f0 f1 f2;go_wp2_with fail;exact bodyPost_ret (v:=.tuple #[.int .u8 (Sq),.agg #[.int .u8 xb.v.k,.int .i64 xb.v.n,.string xb.v.s],.bool (xb.op==1)]) (by simp[results,Tryz.results30,go_sem,f0,f1,f2]) rfl ⟨by rw[HS.out];rfl,hE⟩
def fE (l:List (Ex×Bool)):Bool:=l.any (·.2)
def Jn (any:Bool)(w:World)(e:Ending)(w':World):Prop:=∃i:Int,e=.returned (.int .i64 i)∧(any=false→i= -1)∧(any=true→0≤i)∧Below w.heap.size w w'
theorem CT (y:Ex)(b:Bool)(w:World)(h:ie 28 w y b):ie 52 w y (!b):=by
 intro W hW;have H:=hid h;clear h;have bb:=aa W (.cells #[.int .u8 y.op,.int .u8 y.v.k,.int .i64 y.v.n,.string y.v.s,.string y.name,.int .i64 y.width,.slice y.A y.n y.c] 34);go_enter Tryz.func52,Tryz.ntmps52;go_wp2_with fail;refine(H.out _ (ae.then hW bb)).mono ?_;rintro e w1 ⟨rfl,b1⟩;have hb:=ae.then bb b1
 clear bb b1;go_wp2_with fail;go_ret;exact⟨rfl,hb⟩
theorem Jo (A:Option Addr)(c:Nat)(args:List (Ex×Bool))(w:World)(hl:args.length≤1599289640356)(hA:RE w w.heap.size A (args.map (·.1)))(hE:∀a∈args,ie 35 w a.1 a.2):
  Calls Tryz.prog 60 #[.slice A args.length c,.func (.func 35) #[] #[]] w (Jn (fE args) w):=by
 have HA:=hid hA;have HE:=hid hE;clear hA hE;go_enter Tryz.func60,Tryz.ntmps60;go_wp2_with fail;go_loopw [5,8] (fun _ i wr=>∃k:Nat,k≤args.length∧i=.int .i64 k∧fE args=fE (args.drop k)∧Below w.heap.size w wr) (fun _ i _=>args.length - (intOf i).toNat);case atStart=>exact⟨0,Nat.zero_le _,rfl,rfl,Below.refl _ _⟩
 case round=>
  obtain⟨k,hk,rfl,hp,hb⟩:=hrel;have HP:=hid hp;clear hp;by_cases hlt:k < args.length
  ·obtain⟨b,off,rfl,FM,hex⟩:=(HA.out.below hb).at_ (show k <(args.map (·.1)).length by simpa using hlt);have pD:(args.map (·.1))[k]'(by simpa using hlt)=args[k].1:=by simp
   rw[pD] at hex;clear pD;have mF:=HE.out args[k] (List.getElem_mem hlt);have HD:=hid (show args.drop k=args[k]::args.drop (k+1)from List.drop_eq_getElem_cons hlt);generalize args[k]=yb at*;obtain⟨y,sb⟩:=yb;dsimp only at*;unfold bp at hex;go_wp2_with fail;refine(mF _ hb).mono ?_;rintro e w1 ⟨rfl,b1⟩;have hb1:=ae.then hb b1
   clear hex mF b1 hb;cases sb
   ·go_wp2_with fail;go_roundw;case rel=>refine⟨k+1,hlt,by go_num,?_,hb1⟩;rw[HP.out,HD.out];simp[fE]
    case measure=>simp[intOf];omega
   ·go_wp2_with fail;go_ret;exact⟨k,rfl,fun h=>by rw[HP.out,HD.out] at h;exact absurd h (by simp[fE]),fun _=>by omega,hb1⟩
  ·go_wp2_with fail;go_ret;exact⟨-1,rfl,fun _=>rfl,fun h=>by rw[HP.out,List.drop_eq_nil_of_le (by omega)] at h;exact absurd h (by simp[fE]),hb⟩
theorem iG (A:Option Addr)(c:Nat)(args:List (Ex×Bool))(w:World)(hl:args.length≤1599289640356)(hA:RE w w.heap.size A (args.map (·.1)))(hE:∀a∈args,ie 35 w a.1 a.2):
  Calls Tryz.prog 36 #[.slice A args.length c,.func (.func 35) #[] #[]] w fun e w'=>e=.returned (.bool (fE args))∧Below w.heap.size w w':=by
 have hi:=Jo A c args w hl hA hE;clear hA hE;go_enter Tryz.func36,Tryz.ntmps36;go_wp2_with fail;refine hi.mono ?_;rintro e w1 ⟨i,rfl,h1,h2,b1⟩;cases ha:fE args
 ·have h3:i= -1:=h1 ha;clear h1 h2 hi;subst h3;go_wp2_with fail;go_ret;exact⟨by rw[ha];rfl,b1⟩
 ·have h3:0≤i:=h2 ha;have t1:=decide_eq_true h3;clear h1 h2 hi;go_wp2_with fail;go_ret;exact⟨by rw[ha];rfl,b1⟩
theorem CU (A:Option Addr)(c:Nat)(args:List (Ex×Bool))(w:World)(hl:args.length≤1599289640356)(hA:RE w w.heap.size A (args.map (·.1)))(hE:∀a∈args,ie 52 w a.1 a.2):
  Calls Tryz.prog 60 #[.slice A args.length c,.func (.func 52) #[] #[]] w (Jn (fE args) w):=by
 have HA:=hid hA;have HE:=hid hE;clear hA hE;go_enter Tryz.func60,Tryz.ntmps60;go_wp2_with fail;go_loopw [5,8] (fun _ i wr=>∃k:Nat,k≤args.length∧i=.int .i64 k∧fE args=fE (args.drop k)∧Below w.heap.size w wr) (fun _ i _=>args.length - (intOf i).toNat);case atStart=>exact⟨0,Nat.zero_le _,rfl,rfl,Below.refl _ _⟩
 case round=>
  obtain⟨k,hk,rfl,hp,hb⟩:=hrel;have HP:=hid hp;clear hp;by_cases hlt:k < args.length
  ·obtain⟨b,off,rfl,FM,hex⟩:=(HA.out.below hb).at_ (show k <(args.map (·.1)).length by simpa using hlt);have pD:(args.map (·.1))[k]'(by simpa using hlt)=args[k].1:=by simp
   rw[pD] at hex;clear pD;have mF:=HE.out args[k] (List.getElem_mem hlt);have HD:=hid (show args.drop k=args[k]::args.drop (k+1)from List.drop_eq_getElem_cons hlt);generalize args[k]=yb at*;obtain⟨y,sb⟩:=yb;dsimp only at*;unfold bp at hex;go_wp2_with fail;refine(mF _ hb).mono ?_;rintro e w1 ⟨rfl,b1⟩;have hb1:=ae.then hb b1
   clear hex mF b1 hb;cases sb
   ·go_wp2_with fail;go_roundw;case rel=>refine⟨k+1,hlt,by go_num,?_,hb1⟩;rw[HP.out,HD.out];simp[fE]
    case measure=>simp[intOf];omega
   ·go_wp2_with fail;go_ret;exact⟨k,rfl,fun h=>by rw[HP.out,HD.out] at h;exact absurd h (by simp[fE]),fun _=>by omega,hb1⟩
  ·go_wp2_with fail;go_ret;exact⟨-1,rfl,fun _=>rfl,fun h=>by rw[HP.out,List.drop_eq_nil_of_le (by omega)] at h;exact absurd h (by simp[fE]),hb⟩
theorem CV (A:Option Addr)(c:Nat)(args:List (Ex×Bool))(w:World)(hl:args.length≤1599289640356)(hA:RE w w.heap.size A (args.map (·.1)))(hE:∀a∈args,ie 52 w a.1 a.2):
  Calls Tryz.prog 36 #[.slice A args.length c,.func (.func 52) #[] #[]] w fun e w'=>e=.returned (.bool (fE args))∧Below w.heap.size w w':=by
 have hi:=CU A c args w hl hA hE;clear hA hE;go_enter Tryz.func36,Tryz.ntmps36;go_wp2_with fail;refine hi.mono ?_;rintro e w1 ⟨i,rfl,h1,h2,b1⟩;cases ha:fE args
 ·have h3:i= -1:=h1 ha;clear h1 h2 hi;subst h3;go_wp2_with fail;go_ret;exact⟨by rw[ha];rfl,b1⟩
 ·have h3:0≤i:=h2 ha;have t1:=decide_eq_true h3;clear h1 h2 hi;go_wp2_with fail;go_ret;exact⟨by rw[ha];rfl,b1⟩
theorem AD (op:Int)(v:Val)(name:ByteArray)(width:Int)(A:Option Addr)(c:Nat)(args:List (Ex×Bool))(w:World)(h0:0≤op)(h1:op≤255)(hl:args.length≤1599289640356)(hA:RE w w.heap.size A (args.map (·.1)))(hE:∀a∈args,ie 32 w a.1 a.2):Calls Tryz.prog 32 #[.agg #[.int .u8 op,.int .u8 v.k,.int .i64 v.n,.string v.s,.string name,.int .i64 width,.slice A args.length c]] w fun e w'=>e=.returned (.bool (args.all (·.2)&& tq op v width args.length))∧Below w.heap.size w w':=by
 have HA:=hid hA;have HE:=hid hE;have Oz:=fun W=>FV ⟨op,v,name,width,A,args.length,c⟩ h0 h1 W
 have Jp:=hid Oz;clear hA hE Oz;have HX:=ah.new w 34 #[.int .u8 op,.int .u8 v.k,.int .i64 v.n,.string v.s,.string name,.int .i64 width,.slice A args.length c];have hb0:=aa w (.cells #[.int .u8 op,.int .u8 v.k,.int .i64 v.n,.string v.s,.string name,.int .i64 width,.slice A args.length c] 34);go_enter Tryz.func32,Tryz.ntmps32;go_upto_region 1 with fail
 generalize w.alloc _=W at*;have HB:=hid hb0;clear hb0;go_wp2_with fail;go_loopw [3] (fun iv wr=>∃i:Nat,i≤args.length∧iv=.int .i64 i∧(args.take i).all (·.2)=true∧Below W.heap.size W wr) (fun iv _=>args.length - (intOf iv).toNat);case atStart=>exact⟨0,Nat.zero_le _,rfl,rfl,Below.refl _ _⟩
 case round=>
  obtain⟨i,hi,rfl,hall,kt⟩:=hrel;have CW:=hid hall;clear hall;have hx:=HX.later kt;have x6:=hx.cell 6;simp only[List.getElem?_toArray,List.getElem?_cons_zero,List.getElem?_cons_succ] at x6;by_cases hlt:i < args.length
  ·obtain⟨b,off,rfl,FM,hex⟩:=(HA.out.below (ae.then HB.out kt)).at_ (show i <(args.map (·.1)).length by simpa using hlt);have pD:(args.map (·.1))[i]'(by simpa using hlt)=args[i].1:=by simp
   rw[pD] at hex;clear pD;have mF:=HE.out args[i] (List.getElem_mem hlt);have TB:=List.getElem_mem hlt;have HT:=hid (show args.take (i+1)=args.take i++ [args[i]] by rw[List.take_add_one,List.getElem?_eq_getElem hlt];rfl);generalize args[i]=yb at*;obtain⟨y,d⟩:=yb;have HM:=hid TB;dsimp only at mF hex;unfold bp at hex;clear hx TB;go_wp2_with fail;refine(mF wr (ae.then HB.out kt)).mono ?_;rintro e w1 ⟨rfl,b1⟩;have hb2:=ae.then kt b1
   clear hex mF b1;cases d
   ·have HR:=hid (show args.all (·.2)=false by
     rw[List.all_eq_false]
     exact⟨_,HM.out,by simp⟩)
    go_wp2_with fail;go_ret;exact⟨by rw[HR.out];rfl,ae.then HB.out hb2⟩
   ·go_wp2_with fail;go_roundw;case rel=>refine⟨i+1,hlt,by go_num,?_,hb2⟩;rw[HT.out,List.all_append,CW.out];rfl
    case measure=>simp[intOf];omega
  ·obtain rfl:i=args.length:=by omega
   have HR:=hid (show args.all (·.2)=true by have:=CW.out;rwa [List.take_length] at this);have x0:=hx.cell 0;have x1:=hx.cell 1;have x2:=hx.cell 2;have x3:=hx.cell 3;have x4:=hx.cell 4;have x5:=hx.cell 5;simp only[List.getElem?_toArray,List.getElem?_cons_zero,List.getElem?_cons_succ] at x0 x1 x2 x3 x4 x5;clear hx;go_wp2_with fail;refine(Jp.out wr).mono ?_;rintro e w1 ⟨rfl,b1⟩;go_wp2_with fail;go_ret;exact⟨by rw[HR.out];rfl,ae.then HB.out (ae.then kt b1)⟩
end Go.Proofs.YtfmbcoeallmnnaaGreatDoor
