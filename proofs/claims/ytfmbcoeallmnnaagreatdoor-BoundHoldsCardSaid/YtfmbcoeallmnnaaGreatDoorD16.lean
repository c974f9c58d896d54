/- Parts of the proof. -/
import Derived.Test.YtfmbcoeallmnnaaGreatDoorD15
namespace Go.Proofs.YtfmbcoeallmnnaaGreatDoor
open Go.Lib (hid)
open Go.ChangeShapes Go.WideShapes Go.ChangeAt Go.RowKit
set_option linter.unusedVariables false
set_option linter.unusedSimpArgs false
def dK (y:Ex):Tr:=.mk y.op y.v y.name y.width []
def gO (v:Val):Value:=.agg #[.int .u8 v.k,.int .i64 v.n,.string v.s]
def gP (op:Int)(aA:ByteArray)(a b:Ex)(w:World)(e:Ending)(w':World):Prop:=
 e=.returned (.tuple #[.int .u8 (bF op aA (dK a) (dK b)).1,gO (bF op aA (dK a) (dK b)).2.1,.bool (bF op aA (dK a) (dK b)).2.2])∧Below w.heap.size w w'
theorem RE.two {w:World} {B:Nat} {A:Option Addr} {a b:Ex}(h:RE w B A [a,b]):∃q off,A=some ⟨q,off,none⟩∧q < B∧cw w q off a∧cw w q (off+7) b:=by
 rcases h with h |⟨q,off,h1,h2,h3⟩
 ·cases h
 ·exact⟨q,off,h1,h2,h3 0 a rfl,h3 1 b rfl⟩
theorem eV:(Tryz.prog.info? 34).map (·.size)=some 7:=by kernel_rfl
def uQ:List (Int×Value):=[(12,.int .u8 14),(14,.int .u8 12),(13,.int .u8 15),(15,.int .u8 13)]
theorem kV {op:Int}(h2:op≠12)(h3:op≠13)(h4:op≠14)(h5:op≠15):uQ.lookup op=none∧mL op=op:=by
 constructor
 ·simp only[uQ,List.lookup,beq_eq_false_iff_ne.2 h2,beq_eq_false_iff_ne.2 h3,beq_eq_false_iff_ne.2 h4,beq_eq_false_iff_ne.2 h5]
 ·simp[mL,h2,h3,h4,h5]
set_option maxHeartbeats 40000000
set_option maxRecDepth 100000
theorem eW (nD:Int)(yv:Val)(fI:ByteArray)(dO:Int)(A:Option Addr)(n c:Nat)(a b:Ex)(aA:ByteArray)(w:World)(hn:n=2)(hA:RE w w.heap.size A [a,b]):
  Calls Tryz.prog 30 #[.agg #[.int .u8 nD,.int .u8 yv.k,.int .i64 yv.n,.string yv.s,.string fI,.int .i64 dO,.slice A n c],.string aA] w (gP nD aA a b w):=by
 subst hn;obtain⟨q,off,rfl,hq,oy,oz⟩:=hA.two;unfold gP;obtain⟨S,hS⟩:∃S,S=bF nD aA (dK a) (dK b):=⟨_,rfl⟩;rw[← hS];have Nd:=hid hS;clear hS hA;have HX:=ag.new w 34 #[.int .u8 nD,.int .u8 yv.k,.int .i64 yv.n,.string yv.s,.string fI,.int .i64 dO,.slice (some ⟨q,off,none⟩) 2 c];have hb0:=aa w (.cells #[.int .u8 nD,.int .u8 yv.k,.int .i64 yv.n,.string yv.s,.string fI,.int .i64 dO,.slice (some ⟨q,off,none⟩) 2 c] 34);have HR:=(ag.new (w.alloc (.cells #[.int .u8 nD,.int .u8 yv.k,.int .i64 yv.n,.string yv.s,.string fI,.int .i64 dO,.slice (some ⟨q,off,none⟩) 2 c] 34)) 26 #[.int .u8 0,.int .i64 0,.string ⟨#[]⟩]);have hb1:=aa (w.alloc (.cells #[.int .u8 nD,.int .u8 yv.k,.int .i64 yv.n,.string yv.s,.string fI,.int .i64 dO,.slice (some ⟨q,off,none⟩) 2 c] 34)) (.cells #[.int .u8 0,.int .i64 0,.string ⟨#[]⟩] 26);replace HX:=HX.later hb1;have hB:=ae.then hb0 hb1
 clear hb0 hb1;rw[World.size_alloc] at HR;go_enter Tryz.func30,Tryz.ntmps30;go_upto_region 1 with fail
 generalize World.alloc (World.alloc w _) _=W at*;have x0:=HX.cell 0;have x6:=HX.cell 6;simp only[List.getElem?_toArray,List.getElem?_cons_zero,List.getElem?_cons_succ] at x0 x6;have ea:cw W q off a:=oy.keep fun o=>hB.cell (p:=⟨q,o,none⟩) hq
 have eb:cw W q (off+7) b:=oz.keep fun o=>hB.cell (p:=⟨q,o,none⟩) hq
 have lx:=HX.lt;have lq:q < W.heap.size:=Nat.lt_of_lt_of_le hq hB.size;unfold cw at ea eb;obtain⟨gx,hgx⟩:∃gx,gx=w.heap.size:=⟨_,rfl⟩;rw[← hgx] at x0 x6 lx HX HR ⊢;have q0:=fun(w3:World) (hb:Below W.heap.size W w3)=>(hb.cell (p:=⟨gx,0,none⟩) lx).trans x0
 have q6:=fun(w3:World) (hb:Below W.heap.size W w3)=>(hb.cell (p:=⟨gx,6,none⟩) lx).trans x6
 have qa:=fun(w3:World) (hb:Below W.heap.size W w3)=>(oy.keep fun o=>hB.cell (p:=⟨q,o,none⟩) hq).keep fun o=>hb.cell (p:=⟨q,o,none⟩) lq
 have qb:=fun(w3:World) (hb:Below W.heap.size W w3)=>(oz.keep fun o=>hB.cell (p:=⟨q,o,none⟩) hq).keep fun o=>hb.cell (p:=⟨q,o,none⟩) lq
 unfold cw at qa qb;refine mv 15 (fun i=>([.pointer (some ⟨gx,6,none⟩),.slice (some ⟨q,off,none⟩) 2 c,.pointer (some ⟨q,off,none⟩),.agg #[.int .u8 a.op,.int .u8 a.v.k,.int .i64 a.v.n,.string a.v.s,.string a.name,.int .i64 a.width,.slice a.A a.n a.c],.pointer (some ⟨gx,6,none⟩),.slice (some ⟨q,off,none⟩) 2 c,.pointer (some ⟨q,off+7,none⟩),.agg #[.int .u8 b.op,.int .u8 b.v.k,.int .i64 b.v.n,.string b.v.s,.string b.name,.int .i64 b.width,.slice b.A b.n b.c],.pointer (some ⟨gx,0,none⟩),.int .u8 nD,undef,undef,undef,undef,.int .u8 nD]:List Value).getD i undef) [⟨10,34,#[.int .u8 0,.int .u8 0,.int .i64 0,.string ⟨#[]⟩,.string ⟨#[]⟩,.int .i64 0,.slice none 0 0],12,#[.int .u8 a.op,.int .u8 a.v.k,.int .i64 a.v.n,.string a.v.s,.string a.name,.int .i64 a.width,.slice a.A a.n a.c]⟩,⟨11,34,#[.int .u8 0,.int .u8 0,.int .i64 0,.string ⟨#[]⟩,.string ⟨#[]⟩,.int .i64 0,.slice none 0 0],13,#[.int .u8 b.op,.int .u8 b.v.k,.int .i64 b.v.n,.string b.v.s,.string b.name,.int .i64 b.width,.slice b.A b.n b.c]⟩] [] (by kernel_rfl) (by kernel_rfl) (by kernel_rfl) (by kernel_rfl) (by kernel_rfl) ?_ ?_
 ·simp only[List.take_succ_cons,List.take_zero];refine⟨?_,?_,?_,?_,?_,?_,?_,?_,?_,?_,?_,?_,?_,?_,?_,trivial⟩
  ·refine aJ rfl rfl rfl fun ρ w3 hc hb hr=>?_
   have h0:ρ (.tmp 2)=.pointer (some ⟨gx,0,none⟩):=hr.1;show(execOp ρ _).run _ w3=.ok (.value (.pointer (some ⟨gx,6,none⟩))) w3;simp[go_sem,hc.const,h0]
  ·refine aJ rfl rfl rfl fun ρ w3 hc hb hr=>?_
   have h0:ρ (.tmp 12)=.pointer (some ⟨gx,6,none⟩):=hr.1 (by kernel_rfl);show(execOp ρ _).run _ w3=.ok (.value (.slice (some ⟨q,off,none⟩) 2 c)) w3;simp[go_sem,hc.const,h0,q0 w3 hb,q6 w3 hb,qa w3 hb,qb w3 hb]
  ·refine aJ rfl rfl rfl fun ρ w3 hc hb hr=>?_
   have h0:ρ (.tmp 13)=.slice (some ⟨q,off,none⟩) 2 c:=hr.1 (by kernel_rfl);show(execOp ρ _).run _ w3=.ok (.value (.pointer (some ⟨q,off,none⟩))) w3;simp[go_sem,hc.const,h0]
  ·refine aJ rfl rfl rfl fun ρ w3 hc hb hr=>?_
   have h0:ρ (.tmp 14)=.pointer (some ⟨q,off,none⟩):=hr.1 (by kernel_rfl);show(execOp ρ _).run _ w3=.ok (.value (.agg #[.int .u8 a.op,.int .u8 a.v.k,.int .i64 a.v.n,.string a.v.s,.string a.name,.int .i64 a.width,.slice a.A a.n a.c])) w3;simp[go_sem,hc.const,h0,q0 w3 hb,q6 w3 hb,qa w3 hb,qb w3 hb]
  ·refine aJ rfl rfl rfl fun ρ w3 hc hb hr=>?_
   have h0:ρ (.tmp 2)=.pointer (some ⟨gx,0,none⟩):=hr.1;show(execOp ρ _).run _ w3=.ok (.value (.pointer (some ⟨gx,6,none⟩))) w3;simp[go_sem,hc.const,h0]
  ·refine aJ rfl rfl rfl fun ρ w3 hc hb hr=>?_
   have h0:ρ (.tmp 16)=.pointer (some ⟨gx,6,none⟩):=hr.1 (by kernel_rfl);show(execOp ρ _).run _ w3=.ok (.value (.slice (some ⟨q,off,none⟩) 2 c)) w3;simp[go_sem,hc.const,h0,q0 w3 hb,q6 w3 hb,qa w3 hb,qb w3 hb]
  ·refine aJ rfl rfl rfl fun ρ w3 hc hb hr=>?_
   have h0:ρ (.tmp 17)=.slice (some ⟨q,off,none⟩) 2 c:=hr.1 (by kernel_rfl);show(execOp ρ _).run _ w3=.ok (.value (.pointer (some ⟨q,off+7,none⟩))) w3;simp[go_sem,hc.const,h0]
  ·refine aJ rfl rfl rfl fun ρ w3 hc hb hr=>?_
   have h0:ρ (.tmp 18)=.pointer (some ⟨q,off+7,none⟩):=hr.1 (by kernel_rfl);show(execOp ρ _).run _ w3=.ok (.value (.agg #[.int .u8 b.op,.int .u8 b.v.k,.int .i64 b.v.n,.string b.v.s,.string b.name,.int .i64 b.width,.slice b.A b.n b.c])) w3;simp[go_sem,hc.const,h0,q0 w3 hb,q6 w3 hb,qa w3 hb,qb w3 hb]
  ·refine aJ rfl rfl rfl fun ρ w3 hc hb hr=>?_
   have h0:ρ (.tmp 2)=.pointer (some ⟨gx,0,none⟩):=hr.1;show(execOp ρ _).run _ w3=.ok (.value (.pointer (some ⟨gx,0,none⟩))) w3;simp[go_sem,hc.const,h0]
  ·refine aJ rfl rfl rfl fun ρ w3 hc hb hr=>?_
   have h0:ρ (.tmp 20)=.pointer (some ⟨gx,0,none⟩):=hr.1 (by kernel_rfl);show(execOp ρ _).run _ w3=.ok (.value (.int .u8 nD)) w3;simp[go_sem,hc.const,h0,q0 w3 hb,q6 w3 hb,qa w3 hb,qb w3 hb]
  ·exact jJ _ rfl rfl fun ρ w3 hc=>by first | rfl | simp[go_sem]
  ·exact jJ _ rfl rfl fun ρ w3 hc=>by first | rfl | simp[go_sem]
  ·refine sJ _ 34 (.tmp 7) (.tmp 15) rfl rfl rfl rfl (by kernel_rfl) (by kernel_rfl) (by kernel_rfl) (by kernel_rfl) fun ρ w3 gg hc hr=>?_
   have h0:ρ (.tmp 7)=.pointer (some ⟨gg,0,none⟩):=hr.1;have h1:ρ (.tmp 15)=.agg #[.int .u8 a.op,.int .u8 a.v.k,.int .i64 a.v.n,.string a.v.s,.string a.name,.int .i64 a.width,.slice a.A a.n a.c]:=hr.2.1 (by kernel_rfl);exact⟨h0,h1⟩
  ·refine sJ _ 34 (.tmp 8) (.tmp 19) rfl rfl rfl rfl (by kernel_rfl) (by kernel_rfl) (by kernel_rfl) (by kernel_rfl) fun ρ w3 gg hc hr=>?_
   have h0:ρ (.tmp 8)=.pointer (some ⟨gg,0,none⟩):=hr.1;have h1:ρ (.tmp 19)=.agg #[.int .u8 b.op,.int .u8 b.v.k,.int .i64 b.v.n,.string b.v.s,.string b.name,.int .i64 b.width,.slice b.A b.n b.c]:=hr.2.1 (by kernel_rfl);exact⟨h0,h1⟩
  ·refine aJ rfl rfl rfl fun ρ w3 hc hb hr=>?_
   have h0:ρ (.tmp 21)=.int .u8 nD:=hr.1 (by kernel_rfl);show(execOp ρ _).run _ w3=.ok (.value (.int .u8 nD)) w3;simp[go_sem,hc.const,h0]
 intro W2 gg hb2 hbl hne;have H7:ag W2 (gg 10) 34 #[.int .u8 a.op,.int .u8 a.v.k,.int .i64 a.v.n,.string a.v.s,.string a.name,.int .i64 a.width,.slice a.A a.n a.c]:=(hbl _ (.head _)).2;have l7:W.heap.size≤gg 10:=(hbl _ (.head _)).1;have zf:gg 10≠gg 11:=hne _ (.head _) _ (.tail _ (.head _)) (show(10:Nat)≠11 by decide);have H8:ag W2 (gg 11) 34 #[.int .u8 b.op,.int .u8 b.v.k,.int .i64 b.v.n,.string b.v.s,.string b.name,.int .i64 b.width,.slice b.A b.n b.c]:=(hbl _ (.tail _ (.head _))).2;have l8:W.heap.size≤gg 11:=(hbl _ (.tail _ (.head _))).1;clear hbl hne;simp only[List.take_succ_cons,List.take_zero,List.drop_succ_cons,List.drop_zero,FU,List.getD_cons_zero,List.getD_cons_succ,List.any_cons,List.any_nil,Act.put,List.setIfInBounds_toArray,List.set_cons_succ,List.set_cons_zero,Nat.reduceBEq,Nat.reduceAdd,Nat.zero_add,Bool.or_false,Bool.false_or,Bool.or_true,Bool.true_or,Bool.or_self,if_true,if_false,ite_true,ite_false,Bool.false_eq_true,beq_self_eq_true];generalize gg 10=g7 at*;generalize gg 11=g8 at*;clear gg;have lr:=HR.lt;have QR:w.heap.size≤gx+1:=by omega
 have YC:gx+1≠g7:=by omega
 have YD:gx+1≠g8:=by omega
 have YE:w.heap.size≤g7:=Nat.le_trans hB.size l7;have YF:w.heap.size≤g8:=Nat.le_trans hB.size l8;replace HR:=HR.later hb2;have bZ:=ae.then hB hb2
 clear q0 q6 qa qb oy oz ea eb x0 x6 hb2 HX hB lr lx lq hq l7 l8 hgx;generalize gx+1=gr at*;have b0:=H8.cell 0;have b4:=H8.cell 4;simp only[List.getElem?_toArray,List.getElem?_cons_zero,List.getElem?_cons_succ] at b0 b4;have UZ:=hid HR;have M8:=hid H7;have M9:=hid H8;have N0:=hid bZ;clear HR H7 H8 bZ;have h5:iP aA (dK b)=(b.op==2 && b.name.toList==aA.toList):=rfl;generalize iP aA (dK b)=hc at h5;have H5:=hid h5;clear h5;go_upto_region 2 with fail
 go_cut [30] (fun s wx=>s=.bool hc∧wx=W2);case first=>
  cases h1:(b.op==2)
  ·go_wp2_with fail;go_meet;exact⟨by rw[H5.out,h1];rfl,rfl⟩
  ·go_wp2_with fail;go_meet;exact⟨by rw[H5.out,h1];rfl,rfl⟩
 case rest=>
 obtain⟨rfl,hwc⟩:=hcut;subst wc;go_upto_if 30 with fail
 go_cut [9] (fun s wx=>∃(op:Int) (p q:Ex),s=.int .u8 op∧ag wx g7 34 #[.int .u8 p.op,.int .u8 p.v.k,.int .i64 p.v.n,.string p.v.s,.string p.name,.int .i64 p.width,.slice p.A p.n p.c]∧ag wx g8 34 #[.int .u8 q.op,.int .u8 q.v.k,.int .i64 q.v.n,.string q.v.s,.string q.name,.int .i64 q.width,.slice q.A q.n q.c]∧ag wx gr 26 #[.int .u8 0,.int .i64 0,.string ⟨#[]⟩]∧Below w.heap.size w wx∧S=(op,q.v,iP aA (dK p)&& q.op==1));case first=>
  cases hc
  ·have h5:iP aA (dK b)=false:=H5.out.symm;go_wp2_with fail;go_meet;exact⟨nD,a,b,rfl,M8.out,M9.out,UZ.out,N0.out,by rw[Nd.out];simp only[bF,h5];rfl⟩
  ·have h5:iP aA (dK b)=true:=H5.out.symm;have HR:=UZ.out;have H7:=M8.out;have H8:=M9.out;have bZ:=N0.out;clear UZ M8 M9 N0;go_upto_region 3 with fail
   clear b0 b4;have n7:some g7≠some W2.heap.size:=fun e=>by injection e with e;have:=H7.lt;omega
   have n8:some g8≠some W2.heap.size:=fun e=>by injection e with e;have:=H8.lt;omega
   have nr:some gr≠some W2.heap.size:=fun e=>by injection e with e;have:=HR.lt;omega
   have hw:w.heap.size≤W2.heap.size:=bZ.size;have hM:=ra.new W2;have hBm:=aa W2 (.map #[] 0);replace H7:=H7.later hBm;replace H8:=H8.later hBm;replace HR:=HR.later hBm;replace bZ:=ae.then bZ hBm
   clear hBm;refine wp_region_lit ?_;refine qF rfl 98 rfl ?_;generalize W2.heap.size=gm at*;generalize W2.alloc _=W3 at*;refine iZ Tryz.underlying98 Tryz.underlying5 rfl _ _ _ rfl gm rfl 12 rfl (.int .u8 14) rfl hM (by rfl) ?_;clear hM;intro wm hM hgr;replace H7:=H7.grown hgr n7;replace H8:=H8.grown hgr n8;replace HR:=HR.grown hgr nr;replace bZ:=bZ.trans (jc hgr bZ.size hw);clear hgr;refine iZ Tryz.underlying98 Tryz.underlying5 rfl _ _ _ rfl gm rfl 14 rfl (.int .u8 12) rfl hM (by rfl) ?_;clear hM;intro wm hM hgr;replace H7:=H7.grown hgr n7;replace H8:=H8.grown hgr n8;replace HR:=HR.grown hgr nr;replace bZ:=bZ.trans (jc hgr bZ.size hw);clear hgr;refine iZ Tryz.underlying98 Tryz.underlying5 rfl _ _ _ rfl gm rfl 13 rfl (.int .u8 15) rfl hM (by rfl) ?_;clear hM;intro wm hM hgr;replace H7:=H7.grown hgr n7;replace H8:=H8.grown hgr n8;replace HR:=HR.grown hgr nr;replace bZ:=bZ.trans (jc hgr bZ.size hw);clear hgr;refine iZ Tryz.underlying98 Tryz.underlying5 rfl _ _ _ rfl gm rfl 15 rfl (.int .u8 13) rfl hM (by rfl) ?_;clear hM;intro wm hM hgr;replace H7:=H7.grown hgr n7;replace H8:=H8.grown hgr n8;replace HR:=HR.grown hgr nr;replace bZ:=bZ.trans (jc hgr bZ.size hw);clear hgr;change ra wm gm uQ at hM;simp only[Act.put,List.setIfInBounds_toArray,List.set_cons_succ,List.set_cons_zero];by_cases Va:nD=12
   ·as_aux_lemma=>
     subst Va;have lk:uQ.lookup 12=some (.int .u8 14):=rfl;go_wp2_with (first
      |(refine gw Tryz.underlying98 Tryz.underlying5 rfl (.tmp 33) (.tmp 34) rfl gm rfl 12 rfl hM (z:=.int .u8 0) (fun w=>by kernel_rfl) ?_
        rw[lk]
        dsimp only[Option.getD,Option.isSome])
      |(refine wpList_load_row rfl 34 (.tmp 8) rfl g8 rfl 34 #[.int .u8 b.op,.int .u8 b.v.k,.int .i64 b.v.n,.string b.v.s,.string b.name,.int .i64 b.width,.slice b.A b.n b.c] (0,0) _ H8 Tryz.underlying34 rfl eV ?_)
      |(refine wpList_load_row rfl 34 (.tmp 7) rfl g7 rfl 34 #[.int .u8 a.op,.int .u8 a.v.k,.int .i64 a.v.n,.string a.v.s,.string a.name,.int .i64 a.width,.slice a.A a.n a.c] (0,0) _ H7 Tryz.underlying34 rfl eV ?_)
      |(refine wpList_store_row rfl 34 (.tmp 7) (.tmp 40) rfl g7 #[.int .u8 b.op,.int .u8 b.v.k,.int .i64 b.v.n,.string b.v.s,.string b.name,.int .i64 b.width,.slice b.A b.n b.c] rfl rfl 34 #[.int .u8 a.op,.int .u8 a.v.k,.int .i64 a.v.n,.string a.v.s,.string a.name,.int .i64 a.width,.slice a.A a.n a.c] H7 eV rfl (by kernel_rfl) ?_
        replace H8:=dP H8 (fun e=>zf e.symm) #[.int .u8 b.op,.int .u8 b.v.k,.int .i64 b.v.n,.string b.v.s,.string b.name,.int .i64 b.width,.slice b.A b.n b.c]
        replace HR:=dP HR YC #[.int .u8 b.op,.int .u8 b.v.k,.int .i64 b.v.n,.string b.v.s,.string b.name,.int .i64 b.width,.slice b.A b.n b.c]
        replace bZ:=eU bZ YE #[.int .u8 b.op,.int .u8 b.v.k,.int .i64 b.v.n,.string b.v.s,.string b.name,.int .i64 b.width,.slice b.A b.n b.c]
        replace H7:=jv H7 #[.int .u8 b.op,.int .u8 b.v.k,.int .i64 b.v.n,.string b.v.s,.string b.name,.int .i64 b.width,.slice b.A b.n b.c]
        clear hM
        generalize World.setRow _ _ _=F9 at*)
      |(refine wpList_store_row rfl 34 (.tmp 8) (.tmp 41) rfl g8 #[.int .u8 a.op,.int .u8 a.v.k,.int .i64 a.v.n,.string a.v.s,.string a.name,.int .i64 a.width,.slice a.A a.n a.c] rfl rfl 34 #[.int .u8 b.op,.int .u8 b.v.k,.int .i64 b.v.n,.string b.v.s,.string b.name,.int .i64 b.width,.slice b.A b.n b.c] H8 eV rfl (by kernel_rfl) ?_
        replace H7:=dP H7 zf #[.int .u8 a.op,.int .u8 a.v.k,.int .i64 a.v.n,.string a.v.s,.string a.name,.int .i64 a.width,.slice a.A a.n a.c]
        replace HR:=dP HR YD #[.int .u8 a.op,.int .u8 a.v.k,.int .i64 a.v.n,.string a.v.s,.string a.name,.int .i64 a.width,.slice a.A a.n a.c]
        replace bZ:=eU bZ YF #[.int .u8 a.op,.int .u8 a.v.k,.int .i64 a.v.n,.string a.v.s,.string a.name,.int .i64 a.width,.slice a.A a.n a.c]
        replace H8:=jv H8 #[.int .u8 a.op,.int .u8 a.v.k,.int .i64 a.v.n,.string a.v.s,.string a.name,.int .i64 a.width,.slice a.A a.n a.c]
        generalize World.setRow _ _ _=wr2 at*))
     go_meet;exact⟨14,b,a,rfl,H7,H8,HR,bZ,by rw[Nd.out];simp only[bF,h5,ite_true];first | rfl |(rw[(kV Va Vb Vc Vd).2];rfl)⟩
   by_cases Vb:nD=13
   ·as_aux_lemma=>
     subst Vb;have lk:uQ.lookup 13=some (.int .u8 15):=rfl;go_wp2_with (first
      |(refine gw Tryz.underlying98 Tryz.underlying5 rfl (.tmp 33) (.tmp 34) rfl gm rfl 13 rfl hM (z:=.int .u8 0) (fun w=>by kernel_rfl) ?_
        rw[lk]
        dsimp only[Option.getD,Option.isSome])
      |(refine wpList_load_row rfl 34 (.tmp 8) rfl g8 rfl 34 #[.int .u8 b.op,.int .u8 b.v.k,.int .i64 b.v.n,.string b.v.s,.string b.name,.int .i64 b.width,.slice b.A b.n b.c] (0,0) _ H8 Tryz.underlying34 rfl eV ?_)
      |(refine wpList_load_row rfl 34 (.tmp 7) rfl g7 rfl 34 #[.int .u8 a.op,.int .u8 a.v.k,.int .i64 a.v.n,.string a.v.s,.string a.name,.int .i64 a.width,.slice a.A a.n a.c] (0,0) _ H7 Tryz.underlying34 rfl eV ?_)
      |(refine wpList_store_row rfl 34 (.tmp 7) (.tmp 40) rfl g7 #[.int .u8 b.op,.int .u8 b.v.k,.int .i64 b.v.n,.string b.v.s,.string b.name,.int .i64 b.width,.slice b.A b.n b.c] rfl rfl 34 #[.int .u8 a.op,.int .u8 a.v.k,.int .i64 a.v.n,.string a.v.s,.string a.name,.int .i64 a.width,.slice a.A a.n a.c] H7 eV rfl (by kernel_rfl) ?_
        replace H8:=dP H8 (fun e=>zf e.symm) #[.int .u8 b.op,.int .u8 b.v.k,.int .i64 b.v.n,.string b.v.s,.string b.name,.int .i64 b.width,.slice b.A b.n b.c]
        replace HR:=dP HR YC #[.int .u8 b.op,.int .u8 b.v.k,.int .i64 b.v.n,.string b.v.s,.string b.name,.int .i64 b.width,.slice b.A b.n b.c]
        replace bZ:=eU bZ YE #[.int .u8 b.op,.int .u8 b.v.k,.int .i64 b.v.n,.string b.v.s,.string b.name,.int .i64 b.width,.slice b.A b.n b.c]
        replace H7:=jv H7 #[.int .u8 b.op,.int .u8 b.v.k,.int .i64 b.v.n,.string b.v.s,.string b.name,.int .i64 b.width,.slice b.A b.n b.c]
        clear hM
        generalize World.setRow _ _ _=F9 at*)
      |(refine wpList_store_row rfl 34 (.tmp 8) (.tmp 41) rfl g8 #[.int .u8 a.op,.int .u8 a.v.k,.int .i64 a.v.n,.string a.v.s,.string a.name,.int .i64 a.width,.slice a.A a.n a.c] rfl rfl 34 #[.int .u8 b.op,.int .u8 b.v.k,.int .i64 b.v.n,.string b.v.s,.string b.name,.int .i64 b.width,.slice b.A b.n b.c] H8 eV rfl (by kernel_rfl) ?_
        replace H7:=dP H7 zf #[.int .u8 a.op,.int .u8 a.v.k,.int .i64 a.v.n,.string a.v.s,.string a.name,.int .i64 a.width,.slice a.A a.n a.c]
        replace HR:=dP HR YD #[.int .u8 a.op,.int .u8 a.v.k,.int .i64 a.v.n,.string a.v.s,.string a.name,.int .i64 a.width,.slice a.A a.n a.c]
        replace bZ:=eU bZ YF #[.int .u8 a.op,.int .u8 a.v.k,.int .i64 a.v.n,.string a.v.s,.string a.name,.int .i64 a.width,.slice a.A a.n a.c]
        replace H8:=jv H8 #[.int .u8 a.op,.int .u8 a.v.k,.int .i64 a.v.n,.string a.v.s,.string a.name,.int .i64 a.width,.slice a.A a.n a.c]
        generalize World.setRow _ _ _=wr2 at*))
     go_meet;exact⟨15,b,a,rfl,H7,H8,HR,bZ,by rw[Nd.out];simp only[bF,h5,ite_true];first | rfl |(rw[(kV Va Vb Vc Vd).2];rfl)⟩
   by_cases Vc:nD=14
   ·as_aux_lemma=>
     subst Vc;have lk:uQ.lookup 14=some (.int .u8 12):=rfl;go_wp2_with (first
      |(refine gw Tryz.underlying98 Tryz.underlying5 rfl (.tmp 33) (.tmp 34) rfl gm rfl 14 rfl hM (z:=.int .u8 0) (fun w=>by kernel_rfl) ?_
        rw[lk]
        dsimp only[Option.getD,Option.isSome])
      |(refine wpList_load_row rfl 34 (.tmp 8) rfl g8 rfl 34 #[.int .u8 b.op,.int .u8 b.v.k,.int .i64 b.v.n,.string b.v.s,.string b.name,.int .i64 b.width,.slice b.A b.n b.c] (0,0) _ H8 Tryz.underlying34 rfl eV ?_)
      |(refine wpList_load_row rfl 34 (.tmp 7) rfl g7 rfl 34 #[.int .u8 a.op,.int .u8 a.v.k,.int .i64 a.v.n,.string a.v.s,.string a.name,.int .i64 a.width,.slice a.A a.n a.c] (0,0) _ H7 Tryz.underlying34 rfl eV ?_)
      |(refine wpList_store_row rfl 34 (.tmp 7) (.tmp 40) rfl g7 #[.int .u8 b.op,.int .u8 b.v.k,.int .i64 b.v.n,.string b.v.s,.string b.name,.int .i64 b.width,.slice b.A b.n b.c] rfl rfl 34 #[.int .u8 a.op,.int .u8 a.v.k,.int .i64 a.v.n,.string a.v.s,.string a.name,.int .i64 a.width,.slice a.A a.n a.c] H7 eV rfl (by kernel_rfl) ?_
        replace H8:=dP H8 (fun e=>zf e.symm) #[.int .u8 b.op,.int .u8 b.v.k,.int .i64 b.v.n,.string b.v.s,.string b.name,.int .i64 b.width,.slice b.A b.n b.c]
        replace HR:=dP HR YC #[.int .u8 b.op,.int .u8 b.v.k,.int .i64 b.v.n,.string b.v.s,.string b.name,.int .i64 b.width,.slice b.A b.n b.c]
        replace bZ:=eU bZ YE #[.int .u8 b.op,.int .u8 b.v.k,.int .i64 b.v.n,.string b.v.s,.string b.name,.int .i64 b.width,.slice b.A b.n b.c]
        replace H7:=jv H7 #[.int .u8 b.op,.int .u8 b.v.k,.int .i64 b.v.n,.string b.v.s,.string b.name,.int .i64 b.width,.slice b.A b.n b.c]
        clear hM
        generalize World.setRow _ _ _=F9 at*)
      |(refine wpList_store_row rfl 34 (.tmp 8) (.tmp 41) rfl g8 #[.int .u8 a.op,.int .u8 a.v.k,.int .i64 a.v.n,.string a.v.s,.string a.name,.int .i64 a.width,.slice a.A a.n a.c] rfl rfl 34 #[.int .u8 b.op,.int .u8 b.v.k,.int .i64 b.v.n,.string b.v.s,.string b.name,.int .i64 b.width,.slice b.A b.n b.c] H8 eV rfl (by kernel_rfl) ?_
        replace H7:=dP H7 zf #[.int .u8 a.op,.int .u8 a.v.k,.int .i64 a.v.n,.string a.v.s,.string a.name,.int .i64 a.width,.slice a.A a.n a.c]
        replace HR:=dP HR YD #[.int .u8 a.op,.int .u8 a.v.k,.int .i64 a.v.n,.string a.v.s,.string a.name,.int .i64 a.width,.slice a.A a.n a.c]
        replace bZ:=eU bZ YF #[.int .u8 a.op,.int .u8 a.v.k,.int .i64 a.v.n,.string a.v.s,.string a.name,.int .i64 a.width,.slice a.A a.n a.c]
        replace H8:=jv H8 #[.int .u8 a.op,.int .u8 a.v.k,.int .i64 a.v.n,.string a.v.s,.string a.name,.int .i64 a.width,.slice a.A a.n a.c]
        generalize World.setRow _ _ _=wr2 at*))
     go_meet;exact⟨12,b,a,rfl,H7,H8,HR,bZ,by rw[Nd.out];simp only[bF,h5,ite_true];first | rfl |(rw[(kV Va Vb Vc Vd).2];rfl)⟩
   by_cases Vd:nD=15
   ·as_aux_lemma=>
     subst Vd;have lk:uQ.lookup 15=some (.int .u8 13):=rfl;go_wp2_with (first
      |(refine gw Tryz.underlying98 Tryz.underlying5 rfl (.tmp 33) (.tmp 34) rfl gm rfl 15 rfl hM (z:=.int .u8 0) (fun w=>by kernel_rfl) ?_
        rw[lk]
        dsimp only[Option.getD,Option.isSome])
      |(refine wpList_load_row rfl 34 (.tmp 8) rfl g8 rfl 34 #[.int .u8 b.op,.int .u8 b.v.k,.int .i64 b.v.n,.string b.v.s,.string b.name,.int .i64 b.width,.slice b.A b.n b.c] (0,0) _ H8 Tryz.underlying34 rfl eV ?_)
      |(refine wpList_load_row rfl 34 (.tmp 7) rfl g7 rfl 34 #[.int .u8 a.op,.int .u8 a.v.k,.int .i64 a.v.n,.string a.v.s,.string a.name,.int .i64 a.width,.slice a.A a.n a.c] (0,0) _ H7 Tryz.underlying34 rfl eV ?_)
      |(refine wpList_store_row rfl 34 (.tmp 7) (.tmp 40) rfl g7 #[.int .u8 b.op,.int .u8 b.v.k,.int .i64 b.v.n,.string b.v.s,.string b.name,.int .i64 b.width,.slice b.A b.n b.c] rfl rfl 34 #[.int .u8 a.op,.int .u8 a.v.k,.int .i64 a.v.n,.string a.v.s,.string a.name,.int .i64 a.width,.slice a.A a.n a.c] H7 eV rfl (by kernel_rfl) ?_
        replace H8:=dP H8 (fun e=>zf e.symm) #[.int .u8 b.op,.int .u8 b.v.k,.int .i64 b.v.n,.string b.v.s,.string b.name,.int .i64 b.width,.slice b.A b.n b.c]
        replace HR:=dP HR YC #[.int .u8 b.op,.int .u8 b.v.k,.int .i64 b.v.n,.string b.v.s,.string b.name,.int .i64 b.width,.slice b.A b.n b.c]
        replace bZ:=eU bZ YE #[.int .u8 b.op,.int .u8 b.v.k,.int .i64 b.v.n,.string b.v.s,.string b.name,.int .i64 b.width,.slice b.A b.n b.c]
        replace H7:=jv H7 #[.int .u8 b.op,.int .u8 b.v.k,.int .i64 b.v.n,.string b.v.s,.string b.name,.int .i64 b.width,.slice b.A b.n b.c]
        clear hM
        generalize World.setRow _ _ _=F9 at*)
      |(refine wpList_store_row rfl 34 (.tmp 8) (.tmp 41) rfl g8 #[.int .u8 a.op,.int .u8 a.v.k,.int .i64 a.v.n,.string a.v.s,.string a.name,.int .i64 a.width,.slice a.A a.n a.c] rfl rfl 34 #[.int .u8 b.op,.int .u8 b.v.k,.int .i64 b.v.n,.string b.v.s,.string b.name,.int .i64 b.width,.slice b.A b.n b.c] H8 eV rfl (by kernel_rfl) ?_
        replace H7:=dP H7 zf #[.int .u8 a.op,.int .u8 a.v.k,.int .i64 a.v.n,.string a.v.s,.string a.name,.int .i64 a.width,.slice a.A a.n a.c]
        replace HR:=dP HR YD #[.int .u8 a.op,.int .u8 a.v.k,.int .i64 a.v.n,.string a.v.s,.string a.name,.int .i64 a.width,.slice a.A a.n a.c]
        replace bZ:=eU bZ YF #[.int .u8 a.op,.int .u8 a.v.k,.int .i64 a.v.n,.string a.v.s,.string a.name,.int .i64 a.width,.slice a.A a.n a.c]
        replace H8:=jv H8 #[.int .u8 a.op,.int .u8 a.v.k,.int .i64 a.v.n,.string a.v.s,.string a.name,.int .i64 a.width,.slice a.A a.n a.c]
        generalize World.setRow _ _ _=wr2 at*))
     go_meet;exact⟨13,b,a,rfl,H7,H8,HR,bZ,by rw[Nd.out];simp only[bF,h5,ite_true];first | rfl |(rw[(kV Va Vb Vc Vd).2];rfl)⟩
   ·as_aux_lemma=>
     have lk:uQ.lookup nD=none:=(kV Va Vb Vc Vd).1;go_wp2_with (first
      |(refine gw Tryz.underlying98 Tryz.underlying5 rfl (.tmp 33) (.tmp 34) rfl gm rfl nD rfl hM (z:=.int .u8 0) (fun w=>by kernel_rfl) ?_
        rw[lk]
        dsimp only[Option.getD,Option.isSome])
      |(refine wpList_load_row rfl 34 (.tmp 8) rfl g8 rfl 34 #[.int .u8 b.op,.int .u8 b.v.k,.int .i64 b.v.n,.string b.v.s,.string b.name,.int .i64 b.width,.slice b.A b.n b.c] (0,0) _ H8 Tryz.underlying34 rfl eV ?_)
      |(refine wpList_load_row rfl 34 (.tmp 7) rfl g7 rfl 34 #[.int .u8 a.op,.int .u8 a.v.k,.int .i64 a.v.n,.string a.v.s,.string a.name,.int .i64 a.width,.slice a.A a.n a.c] (0,0) _ H7 Tryz.underlying34 rfl eV ?_)
      |(refine wpList_store_row rfl 34 (.tmp 7) (.tmp 40) rfl g7 #[.int .u8 b.op,.int .u8 b.v.k,.int .i64 b.v.n,.string b.v.s,.string b.name,.int .i64 b.width,.slice b.A b.n b.c] rfl rfl 34 #[.int .u8 a.op,.int .u8 a.v.k,.int .i64 a.v.n,.string a.v.s,.string a.name,.int .i64 a.width,.slice a.A a.n a.c] H7 eV rfl (by kernel_rfl) ?_
        replace H8:=dP H8 (fun e=>zf e.symm) #[.int .u8 b.op,.int .u8 b.v.k,.int .i64 b.v.n,.string b.v.s,.string b.name,.int .i64 b.width,.slice b.A b.n b.c]
        replace HR:=dP HR YC #[.int .u8 b.op,.int .u8 b.v.k,.int .i64 b.v.n,.string b.v.s,.string b.name,.int .i64 b.width,.slice b.A b.n b.c]
        replace bZ:=eU bZ YE #[.int .u8 b.op,.int .u8 b.v.k,.int .i64 b.v.n,.string b.v.s,.string b.name,.int .i64 b.width,.slice b.A b.n b.c]
        replace H7:=jv H7 #[.int .u8 b.op,.int .u8 b.v.k,.int .i64 b.v.n,.string b.v.s,.string b.name,.int .i64 b.width,.slice b.A b.n b.c]
        clear hM
        generalize World.setRow _ _ _=F9 at*)
      |(refine wpList_store_row rfl 34 (.tmp 8) (.tmp 41) rfl g8 #[.int .u8 a.op,.int .u8 a.v.k,.int .i64 a.v.n,.string a.v.s,.string a.name,.int .i64 a.width,.slice a.A a.n a.c] rfl rfl 34 #[.int .u8 b.op,.int .u8 b.v.k,.int .i64 b.v.n,.string b.v.s,.string b.name,.int .i64 b.width,.slice b.A b.n b.c] H8 eV rfl (by kernel_rfl) ?_
        replace H7:=dP H7 zf #[.int .u8 a.op,.int .u8 a.v.k,.int .i64 a.v.n,.string a.v.s,.string a.name,.int .i64 a.width,.slice a.A a.n a.c]
        replace HR:=dP HR YD #[.int .u8 a.op,.int .u8 a.v.k,.int .i64 a.v.n,.string a.v.s,.string a.name,.int .i64 a.width,.slice a.A a.n a.c]
        replace bZ:=eU bZ YF #[.int .u8 a.op,.int .u8 a.v.k,.int .i64 a.v.n,.string a.v.s,.string a.name,.int .i64 a.width,.slice a.A a.n a.c]
        replace H8:=jv H8 #[.int .u8 a.op,.int .u8 a.v.k,.int .i64 a.v.n,.string a.v.s,.string a.name,.int .i64 a.width,.slice a.A a.n a.c]
        generalize World.setRow _ _ _=wr2 at*))
     go_meet;exact⟨nD,b,a,rfl,H7,H8,HR,bZ,by rw[Nd.out];simp only[bF,h5,ite_true];first | rfl |(rw[(kV Va Vb Vc Vd).2];rfl)⟩
 case rest=>
  obtain⟨Xe,xa,xb,rfl,H7,H8,HR,bZ,Iw⟩:=hcut;have Nd:=hid Iw;clear Iw b0 b4
  skip
  have a0:=H7.cell 0;have a1:=H7.cell 1;have a2:=H7.cell 2;have a3:=H7.cell 3;have a4:=H7.cell 4;have a5:=H7.cell 5;have a6:=H7.cell 6;have b0:=H8.cell 0;have b1:=H8.cell 1;have b2:=H8.cell 2;have b3:=H8.cell 3;have b4:=H8.cell 4;have b5:=H8.cell 5;have b6:=H8.cell 6;have r0:=HR.cell 0;have r1:=HR.cell 1;have r2:=HR.cell 2;have rz:=HR.frozen;simp only[List.getElem?_toArray,List.getElem?_cons_zero,List.getElem?_cons_succ] at a0 a1 a2 a3 a4 a5 a6 b0 b1 b2 b3 b4 b5 b6 r0 r1 r2;cases h2:(xa.op==2)
  ·as_aux_lemma=>
    go_upto_region 7 with fail
    go_region;all_goals
     have HF:=((HR.cA 0 (.int .u8 xb.v.k)).cA 1 (.int .i64 xb.v.n)).cA 2 (.string xb.v.s);simp only[List.setIfInBounds_toArray,List.set_cons_succ,List.set_cons_zero] at HF;replace HF:=HF.later ((Below.refl _ _).drew);have hE:=ae.then (((bZ.setCell (p:=⟨gr,0,none⟩) QR (.int .u8 xb.v.k)).setCell (p:=⟨gr,1,none⟩) QR (.int .i64 xb.v.n)).setCell (p:=⟨gr,2,none⟩) QR (.string xb.v.s)) ((Below.refl _ _).drew)
     have HS:=hid (show S=(Xe,xb.v,false) by
      rw[Nd.out]
      simp[iP,dK,Tr.op,Tr.name,h2])
     clear HR bZ H7 H8 rz a0 a1 a2 a3 a4 a5 a6 b0 b1 b2 b3 b4 b5 b6 r0 r1 r2;generalize World.drew _=W4 at*;have f0:=HF.cell 0;have f1:=HF.cell 1;have f2:=HF.cell 2;simp only[List.getElem?_toArray,List.getElem?_cons_zero,List.getElem?_cons_succ] at f0 f1 f2;go_wp2_with fail;exact bodyPost_ret (v:=.tuple #[.int .u8 (Xe),.agg #[.int .u8 xb.v.k,.int .i64 xb.v.n,.string xb.v.s],.bool (false)]) (by simp[results,Tryz.results30,go_sem,f0,f1,f2]) rfl ⟨by rw[HS.out];rfl,hE⟩
  ·cases h3:(xa.name.toList==aA.toList)
   ·as_aux_lemma=>
     go_upto_region 7 with fail
     go_region;all_goals
      have HF:=((HR.cA 0 (.int .u8 xb.v.k)).cA 1 (.int .i64 xb.v.n)).cA 2 (.string xb.v.s);simp only[List.setIfInBounds_toArray,List.set_cons_succ,List.set_cons_zero] at HF;replace HF:=HF.later ((Below.refl _ _).drew);have hE:=ae.then (((bZ.setCell (p:=⟨gr,0,none⟩) QR (.int .u8 xb.v.k)).setCell (p:=⟨gr,1,none⟩) QR (.int .i64 xb.v.n)).setCell (p:=⟨gr,2,none⟩) QR (.string xb.v.s)) ((Below.refl _ _).drew)
      have HS:=hid (show S=(Xe,xb.v,false) by
       rw[Nd.out]
       simp[iP,dK,Tr.op,Tr.name,h2,h3])
      clear HR bZ H7 H8 rz a0 a1 a2 a3 a4 a5 a6 b0 b1 b2 b3 b4 b5 b6 r0 r1 r2;generalize World.drew _=W4 at*;have f0:=HF.cell 0;have f1:=HF.cell 1;have f2:=HF.cell 2;simp only[List.getElem?_toArray,List.getElem?_cons_zero,List.getElem?_cons_succ] at f0 f1 f2;go_wp2_with fail;exact bodyPost_ret (v:=.tuple #[.int .u8 (Xe),.agg #[.int .u8 xb.v.k,.int .i64 xb.v.n,.string xb.v.s],.bool (false)]) (by simp[results,Tryz.results30,go_sem,f0,f1,f2]) rfl ⟨by rw[HS.out];rfl,hE⟩
   ·as_aux_lemma=>
     go_upto_region 7 with fail
     go_region;all_goals
      have HF:=((HR.cA 0 (.int .u8 xb.v.k)).cA 1 (.int .i64 xb.v.n)).cA 2 (.string xb.v.s);simp only[List.setIfInBounds_toArray,List.set_cons_succ,List.set_cons_zero] at HF;replace HF:=HF.later ((Below.refl _ _).drew);have hE:=ae.then (((bZ.setCell (p:=⟨gr,0,none⟩) QR (.int .u8 xb.v.k)).setCell (p:=⟨gr,1,none⟩) QR (.int .i64 xb.v.n)).setCell (p:=⟨gr,2,none⟩) QR (.string xb.v.s)) ((Below.refl _ _).drew)
      have HS:=hid (show S=(Xe,xb.v,xb.op==1) by
       rw[Nd.out]
       simp[iP,dK,Tr.op,Tr.name,h2,h3])
      clear HR bZ H7 H8 rz a0 a1 a2 a3 a4 a5 a6 b0 b1 b2 b3 b4 b5 b6 r0 r1 r2;generalize World.drew _=W4 at*;have f0:=HF.cell 0;have f1:=HF.cell 1;have f2:=HF.cell 2;simp only[List.getElem?_toArray,List.getElem?_cons_zero,List.getElem?_cons_succ] at f0 f1 f2;go_wp2_with fail;exact bodyPost_ret (v:=.tuple #[.int .u8 (Xe),.agg #[.int .u8 xb.v.k,.int .i64 xb.v.n,.string xb.v.s],.bool (xb.op==1)]) (by simp[results,Tryz.results30,go_sem,f0,f1,f2]) rfl ⟨by rw[HS.out];rfl,hE⟩
def fS (l:List (Ex×Bool)):Bool:=l.any (·.2)
def Nf (any:Bool)(w:World)(e:Ending)(w':World):Prop:=∃i:Int,e=.returned (.int .i64 i)∧(any=false→i= -1)∧(any=true→0≤i)∧Below w.heap.size w w'
theorem FV (y:Ex)(b:Bool)(w:World)(h:lu 28 w y b):lu 52 w y (!b):=by
 intro W hW;have H:=hid h;clear h;have bb:=aa W (.cells #[.int .u8 y.op,.int .u8 y.v.k,.int .i64 y.v.n,.string y.v.s,.string y.name,.int .i64 y.width,.slice y.A y.n y.c] 34);go_enter Tryz.func52,Tryz.ntmps52;go_wp2_with fail;refine(H.out _ (ae.then hW bb)).mono ?_;rintro e w1 ⟨rfl,b1⟩;have hb:=ae.then bb b1
 clear bb b1;go_wp2_with fail;go_ret;exact⟨rfl,hb⟩
theorem Ng (A:Option Addr)(c:Nat)(args:List (Ex×Bool))(w:World)(hl:args.length≤1599289640356)(hA:RE w w.heap.size A (args.map (·.1)))(hE:∀a∈args,lu 35 w a.1 a.2):
  Calls Tryz.prog 60 #[.slice A args.length c,.func (.func 35) #[] #[]] w (Nf (fS args) w):=by
 have HA:=hid hA;have HE:=hid hE;clear hA hE;go_enter Tryz.func60,Tryz.ntmps60;go_wp2_with fail;go_loopw [5,8] (fun _ i wr=>∃k:Nat,k≤args.length∧i=.int .i64 k∧fS args=fS (args.drop k)∧Below w.heap.size w wr) (fun _ i _=>args.length - (intOf i).toNat);case atStart=>exact⟨0,Nat.zero_le _,rfl,rfl,Below.refl _ _⟩
 case round=>
  obtain⟨k,hk,rfl,hp,hb⟩:=hrel;have HP:=hid hp;clear hp;by_cases hlt:k < args.length
  ·obtain⟨b,off,rfl,Fe,hex⟩:=(HA.out.below hb).at_ (show k <(args.map (·.1)).length by simpa using hlt);have oO:(args.map (·.1))[k]'(by simpa using hlt)=args[k].1:=by simp
   rw[oO] at hex;clear oO;have mC:=HE.out args[k] (List.getElem_mem hlt);have HD:=hid (show args.drop k=args[k]::args.drop (k+1)from List.drop_eq_getElem_cons hlt);generalize args[k]=yb at*;obtain⟨y,sb⟩:=yb;dsimp only at*;unfold cw at hex;go_wp2_with fail;refine(mC _ hb).mono ?_;rintro e w1 ⟨rfl,b1⟩;have hb1:=ae.then hb b1
   clear hex mC b1 hb;cases sb
   ·go_wp2_with fail;go_roundw;case rel=>refine⟨k+1,hlt,by go_num,?_,hb1⟩;rw[HP.out,HD.out];simp[fS]
    case measure=>simp[intOf];omega
   ·go_wp2_with fail;go_ret;exact⟨k,rfl,fun h=>by rw[HP.out,HD.out] at h;exact absurd h (by simp[fS]),fun _=>by omega,hb1⟩
  ·go_wp2_with fail;go_ret;exact⟨-1,rfl,fun _=>rfl,fun h=>by rw[HP.out,List.drop_eq_nil_of_le (by omega)] at h;exact absurd h (by simp[fS]),hb⟩
theorem je (A:Option Addr)(c:Nat)(args:List (Ex×Bool))(w:World)(hl:args.length≤1599289640356)(hA:RE w w.heap.size A (args.map (·.1)))(hE:∀a∈args,lu 35 w a.1 a.2):
  Calls Tryz.prog 36 #[.slice A args.length c,.func (.func 35) #[] #[]] w fun e w'=>e=.returned (.bool (fS args))∧Below w.heap.size w w':=by
 have hi:=Ng A c args w hl hA hE;clear hA hE;go_enter Tryz.func36,Tryz.ntmps36;go_wp2_with fail;refine hi.mono ?_;rintro e w1 ⟨i,rfl,h1,h2,b1⟩;cases ha:fS args
 ·have h3:i= -1:=h1 ha;clear h1 h2 hi;subst h3;go_wp2_with fail;go_ret;exact⟨by rw[ha];rfl,b1⟩
 ·have h3:0≤i:=h2 ha;have t1:=decide_eq_true h3;clear h1 h2 hi;go_wp2_with fail;go_ret;exact⟨by rw[ha];rfl,b1⟩
theorem FW (A:Option Addr)(c:Nat)(args:List (Ex×Bool))(w:World)(hl:args.length≤1599289640356)(hA:RE w w.heap.size A (args.map (·.1)))(hE:∀a∈args,lu 52 w a.1 a.2):
  Calls Tryz.prog 60 #[.slice A args.length c,.func (.func 52) #[] #[]] w (Nf (fS args) w):=by
 have HA:=hid hA;have HE:=hid hE;clear hA hE;go_enter Tryz.func60,Tryz.ntmps60;go_wp2_with fail;go_loopw [5,8] (fun _ i wr=>∃k:Nat,k≤args.length∧i=.int .i64 k∧fS args=fS (args.drop k)∧Below w.heap.size w wr) (fun _ i _=>args.length - (intOf i).toNat);case atStart=>exact⟨0,Nat.zero_le _,rfl,rfl,Below.refl _ _⟩
 case round=>
  obtain⟨k,hk,rfl,hp,hb⟩:=hrel;have HP:=hid hp;clear hp;by_cases hlt:k < args.length
  ·obtain⟨b,off,rfl,Fe,hex⟩:=(HA.out.below hb).at_ (show k <(args.map (·.1)).length by simpa using hlt);have oO:(args.map (·.1))[k]'(by simpa using hlt)=args[k].1:=by simp
   rw[oO] at hex;clear oO;have mC:=HE.out args[k] (List.getElem_mem hlt);have HD:=hid (show args.drop k=args[k]::args.drop (k+1)from List.drop_eq_getElem_cons hlt);generalize args[k]=yb at*;obtain⟨y,sb⟩:=yb;dsimp only at*;unfold cw at hex;go_wp2_with fail;refine(mC _ hb).mono ?_;rintro e w1 ⟨rfl,b1⟩;have hb1:=ae.then hb b1
   clear hex mC b1 hb;cases sb
   ·go_wp2_with fail;go_roundw;case rel=>refine⟨k+1,hlt,by go_num,?_,hb1⟩;rw[HP.out,HD.out];simp[fS]
    case measure=>simp[intOf];omega
   ·go_wp2_with fail;go_ret;exact⟨k,rfl,fun h=>by rw[HP.out,HD.out] at h;exact absurd h (by simp[fS]),fun _=>by omega,hb1⟩
  ·go_wp2_with fail;go_ret;exact⟨-1,rfl,fun _=>rfl,fun h=>by rw[HP.out,List.drop_eq_nil_of_le (by omega)] at h;exact absurd h (by simp[fS]),hb⟩
theorem FX (A:Option Addr)(c:Nat)(args:List (Ex×Bool))(w:World)(hl:args.length≤1599289640356)(hA:RE w w.heap.size A (args.map (·.1)))(hE:∀a∈args,lu 52 w a.1 a.2):
  Calls Tryz.prog 36 #[.slice A args.length c,.func (.func 52) #[] #[]] w fun e w'=>e=.returned (.bool (fS args))∧Below w.heap.size w w':=by
 have hi:=FW A c args w hl hA hE;clear hA hE;go_enter Tryz.func36,Tryz.ntmps36;go_wp2_with fail;refine hi.mono ?_;rintro e w1 ⟨i,rfl,h1,h2,b1⟩;cases ha:fS args
 ·have h3:i= -1:=h1 ha;clear h1 h2 hi;subst h3;go_wp2_with fail;go_ret;exact⟨by rw[ha];rfl,b1⟩
 ·have h3:0≤i:=h2 ha;have t1:=decide_eq_true h3;clear h1 h2 hi;go_wp2_with fail;go_ret;exact⟨by rw[ha];rfl,b1⟩
end Go.Proofs.YtfmbcoeallmnnaaGreatDoor
