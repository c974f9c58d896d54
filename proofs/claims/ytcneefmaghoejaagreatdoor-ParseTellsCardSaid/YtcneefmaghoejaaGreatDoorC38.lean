/- Parts of the proof. -/
import Derived.Test.YtcneefmaghoejaaGreatDoorC19
namespace Go.Proofs.YtcneefmaghoejaaGreatDoor
open Go.Lib (hid)
open Go.ChangeShapes Go.WideShapes Go.ChangeAt Go.RowKit
set_option linter.unusedVariables false
set_option linter.unusedSimpArgs false
def Nc (w:World)(y z:Ex):Prop:=∀W,Below w.heap.size w W→Calls Tryz.prog 29 #[ee y,ee z] W fun e w'=>e=.returned (.bool true)∧Below W.heap.size W w'
def R8 (w:World)(a b:Sl):Prop:=∀W,Below w.heap.size w W→Calls Tryz.prog 27 #[.slice a.A a.n a.c,.slice b.A b.n b.c] W fun e w'=>e=.returned (.bool true)∧Below W.heap.size W w'
set_option maxHeartbeats 4000000
set_option maxRecDepth 100000
theorem LH (w:World)(y z:Ex)(hop:z.op=y.op)(hv:z.v=y.v)(hn:z.name=y.name)(hw:z.width=y.width)(hL:R8 w ⟨y.A,y.n,y.c⟩ ⟨z.A,z.n,z.c⟩):Nc w y z:=by
 intro W hW;obtain⟨op2,v2,adh,ahC,A,n,c⟩:=y;obtain⟨op,v,name,width,A2,n2,c2⟩:=z;simp only at hop hv hn hw;subst hop hv hn hw;have HL:=hid hL;clear hL;unfold ee bl;obtain⟨vk,vn,vs⟩:=v;go_enter Tryz.func29,Tryz.ntmps29;have hX:=(au.new W 49 #[.int .u8 op,.int .u8 vk,.int .i64 vn,.string vs,.string name,.int .i64 width,.slice A n c]).alloc (.cells #[.int .u8 op,.int .u8 vk,.int .i64 vn,.string vs,.string name,.int .i64 width,.slice A2 n2 c2] 49);have hZ:=au.new (W.alloc (.cells #[.int .u8 op,.int .u8 vk,.int .i64 vn,.string vs,.string name,.int .i64 width,.slice A n c] 49)) 49 #[.int .u8 op,.int .u8 vk,.int .i64 vn,.string vs,.string name,.int .i64 width,.slice A2 n2 c2];rw[World.size_alloc] at hZ;have hB:=ah.then (aa W (.cells #[.int .u8 op,.int .u8 vk,.int .i64 vn,.string vs,.string name,.int .i64 width,.slice A n c] 49)) (aa _ (.cells #[.int .u8 op,.int .u8 vk,.int .i64 vn,.string vs,.string name,.int .i64 width,.slice A2 n2 c2] 49))
 have x0:=hX.cell 0;have x1:=hX.cell 1;have x2:=hX.cell 2;have x3:=hX.cell 3;have x4:=hX.cell 4;have x5:=hX.cell 5;have x6:=hX.cell 6;simp only[List.getElem?_toArray,List.getElem?_cons_zero,List.getElem?_cons_succ] at x0 x1 x2 x3 x4 x5 x6;have z0:=hZ.cell 0;have z1:=hZ.cell 1;have z2:=hZ.cell 2;have z3:=hZ.cell 3;have z4:=hZ.cell 4;have z5:=hZ.cell 5;have z6:=hZ.cell 6;simp only[List.getElem?_toArray,List.getElem?_cons_zero,List.getElem?_cons_succ] at z0 z1 z2 z3 z4 z5 z6;have e1:(op==op)=true:=by simp
 have e2:(vk==vk)=true:=by simp
 have e3:(vn==vn)=true:=by simp
 have e4:(vs.toList==vs.toList)=true:=by simp
 have e5:(name.toList==name.toList)=true:=by simp
 have e6:(width==width)=true:=by simp
 go_wp2_with fail;refine(HL.out _ (hW.trans (hB.mono hW.size))).mono ?_;rintro e w1 ⟨rfl,b1⟩;replace hB:=ah.then hB b1
 clear b1 x0 x1 x2 x3 x4 x5 x6 z0 z1 z2 z3 z4 z5 z6;go_wp2_with fail;go_ret;exact⟨rfl,hB⟩
theorem DO (w:World)(A A2:Option Addr)(c c2:Nat)(ys zs:List Ex)(S S2:Nat→Prop)(hS:∀b,S b→b < w.heap.size)(ud:∀b,S2 b→b < w.heap.size)(hlen:zs.length=ys.length)(hA:RL bl 7 w S A ys)(bh:RL bl 7 w S2 A2 zs)(h:∀(i:Nat) y z,ys[i]?=some y→zs[i]?=some z→Nc w y z)(hl:ys.length≤1000000000):R8 w ⟨A,ys.length,c⟩ ⟨A2,zs.length,c2⟩:=by
 intro W hW;have HD:=hid h;have HA:=hid hA;have iK:=hid bh;clear h hA bh;obtain⟨n,hn⟩:∃n,n=ys.length:=⟨_,rfl⟩;rw[← hn] at hlen hl ⊢;rw[hlen];have HN:=hid hn;have yJ:=hid hlen;clear hn hlen;show Calls Tryz.prog 27 #[.slice A n c,.slice A2 n c2] W _;have t0:(n != n)=false:=by simp
 have t1:((n:Int) !=(n:Int))=false:=by simp
 go_enter Tryz.func27,Tryz.ntmps27;go_wp2_with fail;clear t0 t1;have HW:=hid hW;go_loopw [5] (fun iv wr=>∃i:Nat,i≤n∧iv=.int .i64 i∧Below W.heap.size W wr) (fun iv _=>n - (intOf iv).toNat);case atStart=>exact⟨0,Nat.zero_le _,rfl,Below.refl _ _⟩
 case round=>
  obtain⟨i,hi,rfl,iY⟩:=hrel;by_cases hlt:i < n
  ·obtain⟨x,hx⟩:∃x,ys[i]?=some x:=⟨_,List.getElem?_eq_getElem (by have:=HN.out;omega)⟩;obtain⟨u,hu⟩:∃u,zs[i]?=some u:=⟨_,List.getElem?_eq_getElem (by have:=yJ.out;omega)⟩;have hD:=HD.out i x u hx hu;have hwr:Below w.heap.size w wr:=hW.trans (iY.mono hW.size);rcases HA.out with h0 |⟨b,off,uk,rq,hc⟩
   ·subst h0;simp at hx
   rcases iK.out with h0 |⟨b2,fS,xM,oB,hc2⟩
   ·subst h0;simp at hu
   have pz:b < wr.heap.size:=Nat.lt_of_lt_of_le (hS b rq) hwr.size;have jb:b2 < wr.heap.size:=Nat.lt_of_lt_of_le (ud b2 oB) hwr.size;have hcell:=fun j v hv=>(hwr.cell (p:=⟨b,off+i*7+j,none⟩) (hS b rq)).trans (hc i x j v hx hv)
   have cS:=fun j v hv=>(hwr.cell (p:=⟨b2,fS+i*7+j,none⟩) (ud b2 oB)).trans (hc2 i u j v hu hv)
   have k0:=fun q:Ext wr.heap.size wr=>(q.h.cell (p:=⟨b,off+i*7,none⟩) pz).trans (hcell 0 (.int .u8 x.op) rfl)
   have k1:=fun q:Ext wr.heap.size wr=>(q.h.cell (p:=⟨b,off+i*7+1,none⟩) pz).trans (hcell 1 (.int .u8 x.v.k) rfl)
   have k2:=fun q:Ext wr.heap.size wr=>(q.h.cell (p:=⟨b,off+i*7+2,none⟩) pz).trans (hcell 2 (.int .i64 x.v.n) rfl)
   have k3:=fun q:Ext wr.heap.size wr=>(q.h.cell (p:=⟨b,off+i*7+3,none⟩) pz).trans (hcell 3 (.string x.v.s) rfl)
   have k4:=fun q:Ext wr.heap.size wr=>(q.h.cell (p:=⟨b,off+i*7+4,none⟩) pz).trans (hcell 4 (.string x.name) rfl)
   have k5:=fun q:Ext wr.heap.size wr=>(q.h.cell (p:=⟨b,off+i*7+5,none⟩) pz).trans (hcell 5 (.int .i64 x.width) rfl)
   have k6:=fun q:Ext wr.heap.size wr=>(q.h.cell (p:=⟨b,off+i*7+6,none⟩) pz).trans (hcell 6 (.slice x.A x.n x.c) rfl)
   have m0:=fun q:Ext wr.heap.size wr=>(q.h.cell (p:=⟨b2,fS+i*7,none⟩) jb).trans (cS 0 (.int .u8 u.op) rfl)
   have m1:=fun q:Ext wr.heap.size wr=>(q.h.cell (p:=⟨b2,fS+i*7+1,none⟩) jb).trans (cS 1 (.int .u8 u.v.k) rfl)
   have m2:=fun q:Ext wr.heap.size wr=>(q.h.cell (p:=⟨b2,fS+i*7+2,none⟩) jb).trans (cS 2 (.int .i64 u.v.n) rfl)
   have m3:=fun q:Ext wr.heap.size wr=>(q.h.cell (p:=⟨b2,fS+i*7+3,none⟩) jb).trans (cS 3 (.string u.v.s) rfl)
   have m4:=fun q:Ext wr.heap.size wr=>(q.h.cell (p:=⟨b2,fS+i*7+4,none⟩) jb).trans (cS 4 (.string u.name) rfl)
   have m5:=fun q:Ext wr.heap.size wr=>(q.h.cell (p:=⟨b2,fS+i*7+5,none⟩) jb).trans (cS 5 (.int .i64 u.width) rfl)
   have m6:=fun q:Ext wr.heap.size wr=>(q.h.cell (p:=⟨b2,fS+i*7+6,none⟩) jb).trans (cS 6 (.slice u.A u.n u.c) rfl)
   have yX:=fun q:Ext wr.heap.size wr=>hD q.w (hwr.trans (q.h.mono hwr.size))
   unfold ee bl at yX;clear hcell cS hc hc2 hx hu hwr hD;subst uk xM;go_upto_region 10 with fail
   refine fY 10 wr.heap.size wr (Below.refl _ _) (by kernel_rfl) (by kernel_rfl) (by kernel_rfl) (by kernel_rfl) ?_;simp only[List.take_succ_cons,List.take_zero,List.drop_succ_cons,List.drop_zero];repeat (go_big_quiet_step (fail))
   go_big_quiet_step ((go_at_call 29;exact ji (Nat.le_refl _) (yX _)));repeat (go_big_quiet_step (fail))
   refine wpQuiet_nil ?_;rintro V4 ⟨x9,yD⟩;have xN:=x9.h;rw[← yD] at xN;have hb1:=ah.then iY xN
   clear yD x9 k0 k1 k2 k3 k4 k5 k6 m0 m1 m2 m3 m4 m5 m6 yX xN;go_wp2_with fail;go_roundw;case rel=>exact⟨i+1,by omega,by go_num,hb1⟩
   case measure=>simp[intOf];omega
  ·obtain rfl:i=n:=by omega
   go_wp2_with fail;go_ret;exact⟨rfl,iY⟩
mutual
theorem Tr.zF {w:World} {S S2:Nat→Prop}(hS:∀b,S b→b < w.heap.size)(ud:∀b,S2 b→b < w.heap.size):∀(t:Tr) (y z:Ex),t.at_ w S y→t.at_ w S2 z→t.thin→Nc w y z
 | .mk op v name width args,y,z,h,h2,ht=>by unfold Tr.at_ at h h2;obtain⟨a1,a2,a3,a4,hn,ys,hr,ha⟩:=h;obtain⟨c1,c2,c3,c4,hn2,zs,hr2,ha2⟩:=h2;unfold Tr.thin at ht;have hl:=Tr.gK.length ha;have hl2:=Tr.gK.length ha2;refine LH w y z (by rw[c1,a1]) (by rw[c2,a2]) (by rw[c3,a3]) (by rw[c4,a4]) ?_;have:=DO w y.A z.A y.c z.c ys zs S S2 hS ud (by omega) hr hr2 (Tr.BH hS ud args ys zs ha ha2 ht.2) (by rw[hl];exact ht.1);rw[hn,hn2,← hl];rw[hl2,← hl] at this;exact this
theorem Tr.BH {w:World} {S S2:Nat→Prop}(hS:∀b,S b→b < w.heap.size)(ud:∀b,S2 b→b < w.heap.size):∀(ts:List Tr) (ys zs:List Ex),Tr.gK w S ts ys→Tr.gK w S2 ts zs→Tr.ma ts→∀(i:Nat) y z,ys[i]?=some y→zs[i]?=some z→Nc w y z
 | [],ys,zs,h,h2,_,i,y,z,hy,hz=>by unfold Tr.gK at h;subst h;simp at hy
 | t::ts,ys,zs,h,h2,ht,i,y,z,hy,hz=>by
   unfold Tr.gK at h h2;obtain⟨y0,ys',rfl,h1,h3⟩:=h;obtain⟨z0,zs',rfl,k1,k3⟩:=h2;unfold Tr.ma at ht
   match i,hy,hz with
   | 0,hy,hz=>simp at hy hz;subst hy hz;exact Tr.zF hS ud t _ _ h1 k1 ht.1
   | i+1,hy,hz=>exact Tr.BH hS ud ts ys' zs' h3 k3 ht.2 i y z (by simpa using hy) (by simpa using hz)
end
theorem BI {w:World} {S S2:Nat→Prop}(hS:∀b,S b→b < w.heap.size)(ud:∀b,S2 b→b < w.heap.size) {ts:List Tr} {a b:Sl}(h:gL.sl w S a ts)(h2:gL.sl w S2 b ts)(ht:Tr.ma ts)(hl:ts.length≤1000000000):R8 w a b:=by obtain⟨hn,ys,hr,ha⟩:=h;obtain⟨hn2,zs,hr2,ha2⟩:=h2;have ha:=zb.1 ha;have ha2:=zb.1 ha2;have l1:=Tr.gK.length ha;have l2:=Tr.gK.length ha2;obtain⟨aA,an,ac⟩:=a;obtain⟨bA,bn,bc⟩:=b;have:=DO w aA bA ac bc ys zs S S2 hS ud (by omega) hr hr2 (Tr.BH hS ud ts ys zs ha ha2 ht) (by omega);simp only at hn hn2;rw[hn,hn2,← l1];rw[l2,← l1] at this;exact this
theorem jc {α β:Type} {R:α→β→Prop} {l:List α} {m:List β}(h:jP R l m):∀ {i:Nat} {x:α} {y:β},l[i]?=some x→m[i]?=some y→R x y:=by
 induction h with
 | nil=>intro i x y h;simp at h
 | cons a _ ih=>
   intro i x y h k;cases i with
   | zero=>simp at h k;subst h k;exact a
   | succ i=>exact ih (by simpa using h) (by simpa using k)
def QuT (w:World)(y z:tP):Prop:=∀W,Below w.heap.size w W→Calls Tryz.prog 28 #[KP y,KP z] W fun e w'=>e=.returned (.bool true)∧Below W.heap.size W w'
structure Qu.Jm (q:Qu):Prop where
 items:q.items.length≤1000000000
 order:q.order.length≤1000000000
 cG:q.cG.length≤1000000000
 bK:q.bK.length≤1000000000
 group:q.group.length≤1000000000
 having:q.having.length≤1000000000
 R9:∀t∈q.items,t.1.thin
 S0:∀t∈q.order,t.1.thin
 S1:Tr.ma q.bK
 S3:Tr.ma q.group
 Yh:Tr.ma q.having
theorem Jn {w:World} {S S2:Nat→Prop}(hS:∀b,S b→b < w.heap.size)(ud:∀b,S2 b→b < w.heap.size) {q:Qu} {y z:tP}(h:q.at_ w S y)(h2:q.at_ w S2 z)(hs:q.Jm):QuT w y z:=by
 intro W hW;have HWH:=hid (BI hS ud h.bK h2.bK hs.S1 hs.bK);have HGR:=hid (BI hS ud h.group h2.group hs.S3 hs.group);have HHA:=hid (BI hS ud h.having h2.having hs.Yh hs.having);obtain⟨wE,UD,Nd,Nf⟩:=h.items;obtain⟨sK,UE,Ng,Nh⟩:=h2.items;have Yi:=hid Nd;have Yj:=hid Ng;have Jo:=hid Nf;have Jp:=hid Nh;obtain⟨wF,UF,Ni,Nj⟩:=h.order;obtain⟨sL,UG,Nk,Nl⟩:=h2.order;have Yk:=hid Ni;have Yl:=hid Nk;have Jq:=hid Nj;have Jr:=hid Nl;obtain⟨wG,UH,Nn,Np⟩:=h.cG;obtain⟨sM,UI,Nq,Nr⟩:=h2.cG;have Ym:=hid Nn;have Yn:=hid Nq;have Js:=hid Np;have Jt:=hid Nr;obtain⟨sN,_⟩:=h.bK;obtain⟨oD,_⟩:=h2.bK;obtain⟨wH,_⟩:=h.group;obtain⟨sO,_⟩:=h2.group;obtain⟨sP,_⟩:=h.having;obtain⟨qi,_⟩:=h2.having;have adi:=h.bw.symm;have D4:=h2.bw.symm;have D5:=h.only.symm;have UJ:=h2.only.symm;have Yo:=hid hs.R9;have Yp:=hid hs.S0;have bI:=hs.items;have bO:=hs.order;have bL:=hs.cG;clear h h2 hs;obtain⟨Ns,bw,only,UK,Yq,UL,Nt,Nu⟩:=q;obtain⟨⟨wI,aez,wJ⟩,amo,ajG,⟨sQ,ajH,sR⟩,⟨wL,aeA,wM⟩,⟨sS,adj,sT⟩,⟨wO,aeB,wP⟩,⟨wQ,aeC,wR⟩⟩:=y;obtain⟨⟨sU,adk,sV⟩,amp,ajI,⟨oF,S4,oG⟩,⟨sW,adl,sX⟩,⟨qj,Z4,ql⟩,⟨sY,adm,sZ⟩,⟨th,adn,tj⟩⟩:=z;simp only at adi D4 D5 UJ bI bO bL wE sK sN oD wH sO sP qi wF sL wG sM;subst adi D4 D5 UJ;obtain⟨ib,FN⟩:∃n:Nat,n=Ns.length:=⟨_,rfl⟩;rw[← FN] at wE sK;replace wE:=wE.symm;replace sK:=sK.symm;subst wE sK;have zG:=hid FN;clear FN;obtain⟨kL,BJ⟩:∃n:Nat,n=UK.length:=⟨_,rfl⟩;rw[← BJ] at sN oD;replace sN:=sN.symm;replace oD:=oD.symm;subst sN oD;have ado:=hid BJ;clear BJ;obtain⟨mF,FO⟩:∃n:Nat,n=Yq.length:=⟨_,rfl⟩;rw[← FO] at wH sO;replace wH:=wH.symm;replace sO:=sO.symm;subst wH sO;have aeD:=hid FO;clear FO;obtain⟨kM,BK⟩:∃n:Nat,n=UL.length:=⟨_,rfl⟩;rw[← BK] at sP qi;replace sP:=sP.symm;replace qi:=qi.symm;subst sP qi;have adp:=hid BK;clear BK;obtain⟨ie,FP⟩:∃n:Nat,n=Nt.length:=⟨_,rfl⟩;rw[← FP] at wF sL;replace wF:=wF.symm;replace sL:=sL.symm;subst wF sL;have zH:=hid FP;clear FP;obtain⟨ig,FQ⟩:∃n:Nat,n=Nu.length:=⟨_,rfl⟩
 rw[← FQ] at wG sM;replace wG:=wG.symm;replace sM:=sM.symm;subst wG sM;have zI:=hid FQ;clear FQ;clear Nd Ng Nf Nh Ni Nk Nj Nl Nn Nq Np Nr;rw[← zG.out] at bI;rw[← zH.out] at bO;rw[← zI.out] at bL;show Calls Tryz.prog 28 #[.agg #[.slice wI ib wJ,.string bw,.bool only,.slice sQ kL sR,.slice wL mF wM,.slice sS kM sT,.slice wO ie wP,.slice wQ ig wR],.agg #[.slice sU ib sV,.string bw,.bool only,.slice oF kL oG,.slice sW mF sX,.slice qj kM ql,.slice sY ie sZ,.slice th ig tj]] W _;go_enter Tryz.func28,Tryz.ntmps28;have hX:=(au.new W 29 #[.slice wI ib wJ,.string bw,.bool only,.slice sQ kL sR,.slice wL mF wM,.slice sS kM sT,.slice wO ie wP,.slice wQ ig wR]).alloc (.cells #[.slice sU ib sV,.string bw,.bool only,.slice oF kL oG,.slice sW mF sX,.slice qj kM ql,.slice sY ie sZ,.slice th ig tj] 29);have hZ:=au.new (W.alloc (.cells #[.slice wI ib wJ,.string bw,.bool only,.slice sQ kL sR,.slice wL mF wM,.slice sS kM sT,.slice wO ie wP,.slice wQ ig wR] 29)) 29 #[.slice sU ib sV,.string bw,.bool only,.slice oF kL oG,.slice sW mF sX,.slice qj kM ql,.slice sY ie sZ,.slice th ig tj];rw[World.size_alloc] at hZ;have hB:=ah.then (aa W (.cells #[.slice wI ib wJ,.string bw,.bool only,.slice sQ kL sR,.slice wL mF wM,.slice sS kM sT,.slice wO ie wP,.slice wQ ig wR] 29)) (aa _ (.cells #[.slice sU ib sV,.string bw,.bool only,.slice oF kL oG,.slice sW mF sX,.slice qj kM ql,.slice sY ie sZ,.slice th ig tj] 29))
 have x0:=hX.cell 0;have z0:=hZ.cell 0;have x1:=hX.cell 1;have z1:=hZ.cell 1;have x2:=hX.cell 2;have z2:=hZ.cell 2;have x3:=hX.cell 3;have z3:=hZ.cell 3;have x4:=hX.cell 4;have z4:=hZ.cell 4;have x5:=hX.cell 5;have z5:=hZ.cell 5;have x6:=hX.cell 6;have z6:=hZ.cell 6;have x7:=hX.cell 7;have z7:=hZ.cell 7;simp only[List.getElem?_toArray,List.getElem?_cons_zero,List.getElem?_cons_succ] at x0 z0 x1 z1 x2 z2 x3 z3 x4 z4 x5 z5 x6 z6 x7 z7;have e0:(bw.toList != bw.toList)=false:=by simp
 have e1:(only != only)=false:=by simp
 have e2:((ib:Int) !=(ib:Int))=false:=by simp
 have e3:((ie:Int) !=(ie:Int))=false:=by simp
 have e4:((ig:Int) !=(ig:Int))=false:=by simp
 have e5:(ib != ib)=false:=by simp
 have e6:(ie != ie)=false:=by simp
 have e7:(ig != ig)=false:=by simp
 go_upto_region 1 with fail
 change Code.wp _ _ _ _ ((W.alloc (.cells #[.slice wI ib wJ,.string bw,.bool only,.slice sQ kL sR,.slice wL mF wM,.slice sS kM sT,.slice wO ie wP,.slice wQ ig wR] 29)).alloc (.cells #[.slice sU ib sV,.string bw,.bool only,.slice oF kL oG,.slice sW mF sX,.slice qj kM ql,.slice sY ie sZ,.slice th ig tj] 29));have CE:=hid (hW.trans (hB.mono hW.size));generalize hQX:W.heap.size=QX at*;generalize hQZ:QX+1=QZ at*;generalize hW1:((W.alloc _).alloc _)=W1 at*;have HX:=hid hX;have HZ:=hid hZ;have HB:=hid hB;have oq:=hid hQX;clear hX hZ hB hQX hQZ hW1;go_wp2_with fail;refine(HWH.out _ CE.out).mono ?_;rintro e V1 ⟨rfl,b1⟩;have hb1:=b1;replace x0:=(b1.cell (ay x0)).trans x0;replace z0:=(b1.cell (ay z0)).trans z0;replace x1:=(b1.cell (ay x1)).trans x1;replace z1:=(b1.cell (ay z1)).trans z1;replace x2:=(b1.cell (ay x2)).trans x2;replace z2:=(b1.cell (ay z2)).trans z2;replace x3:=(b1.cell (ay x3)).trans x3;replace z3:=(b1.cell (ay z3)).trans z3;replace x4:=(b1.cell (ay x4)).trans x4;replace z4:=(b1.cell (ay z4)).trans z4;replace x5:=(b1.cell (ay x5)).trans x5;replace z5:=(b1.cell (ay z5)).trans z5;replace x6:=(b1.cell (ay x6)).trans x6;replace z6:=(b1.cell (ay z6)).trans z6;replace x7:=(b1.cell (ay x7)).trans x7;replace z7:=(b1.cell (ay z7)).trans z7;go_wp2_with fail;refine(HGR.out _ (CE.out.trans (hb1.mono CE.out.size))).mono ?_;rintro e V2 ⟨rfl,b2⟩;have hb2:=ah.then hb1 b2
 replace x0:=(b2.cell (ay x0)).trans x0;replace z0:=(b2.cell (ay z0)).trans z0;replace x1:=(b2.cell (ay x1)).trans x1;replace z1:=(b2.cell (ay z1)).trans z1;replace x2:=(b2.cell (ay x2)).trans x2;replace z2:=(b2.cell (ay z2)).trans z2;replace x3:=(b2.cell (ay x3)).trans x3;replace z3:=(b2.cell (ay z3)).trans z3;replace x4:=(b2.cell (ay x4)).trans x4;replace z4:=(b2.cell (ay z4)).trans z4;replace x5:=(b2.cell (ay x5)).trans x5;replace z5:=(b2.cell (ay z5)).trans z5;replace x6:=(b2.cell (ay x6)).trans x6;replace z6:=(b2.cell (ay z6)).trans z6;replace x7:=(b2.cell (ay x7)).trans x7;replace z7:=(b2.cell (ay z7)).trans z7;go_wp2_with fail;refine(HHA.out _ (CE.out.trans (hb2.mono CE.out.size))).mono ?_;rintro e V3 ⟨rfl,b3⟩;have hb3:=ah.then hb2 b3
 clear x0 z0 x1 z1 x2 z2 x3 z3 x4 z4 x5 z5 x6 z6 x7 z7;go_wp2_with fail;clear e0 e1 e2 e3 e4 e5 e6 e7;go_loopw [5] (fun iv wr=>∃i:Nat,i≤ib∧iv=.int .i64 i∧Below W1.heap.size W1 wr) (fun iv _=>ib - (intOf iv).toNat);case atStart=>exact⟨0,Nat.zero_le _,rfl,hb3⟩
 case round=>
  obtain⟨i,hi,rfl,iY⟩:=hrel;have x0:=(HX.out.later iY).cell 0;have z0:=(HZ.out.later iY).cell 0;simp only[List.getElem?_toArray,List.getElem?_cons_zero,List.getElem?_cons_succ] at x0 z0;have gI:=hid iY;by_cases hlt:i < ib
  ·obtain⟨x,hx⟩:∃x:Ex×ByteArray,UD[i]?=some x:=⟨_,List.getElem?_eq_getElem (by have h1:=zG.out;have h2:=Jo.out.len;omega)⟩;obtain⟨u,hu⟩:∃u:Ex×ByteArray,UE[i]?=some u:=⟨_,List.getElem?_eq_getElem (by have h1:=zG.out;have h2:=Jp.out.len;omega)⟩;obtain⟨t,ht⟩:∃t,Ns[i]?=some t:=⟨_,List.getElem?_eq_getElem (by have h1:=zG.out;omega)⟩;have r1:=jc Jo.out ht hx;have r2:=jc Jp.out ht hu;have hwr:Below w.heap.size w wr:=CE.out.trans (iY.mono CE.out.size);rcases Yi.out with h0 |⟨b,off,uk,rq,hc⟩
   ·subst h0;simp at hx
   rcases Yj.out with h0 |⟨b2,fS,xM,oB,hc2⟩
   ·subst h0;simp at hu
   have pz:b < wr.heap.size:=Nat.lt_of_lt_of_le (hS b rq) hwr.size;have jb:b2 < wr.heap.size:=Nat.lt_of_lt_of_le (ud b2 oB) hwr.size;have hcell:=fun j v hv=>(hwr.cell (p:=⟨b,off+i*8+j,none⟩) (hS b rq)).trans (hc i x j v hx hv)
   have cS:=fun j v hv=>(hwr.cell (p:=⟨b2,fS+i*8+j,none⟩) (ud b2 oB)).trans (hc2 i u j v hu hv)
   have k0:=fun q:Ext wr.heap.size wr=>(q.h.cell (p:=⟨b,off+i*8,none⟩) pz).trans (hcell 0 (.int .u8 x.1.op) rfl)
   have k1:=fun q:Ext wr.heap.size wr=>(q.h.cell (p:=⟨b,off+i*8+1,none⟩) pz).trans (hcell 1 (.int .u8 x.1.v.k) rfl)
   have k2:=fun q:Ext wr.heap.size wr=>(q.h.cell (p:=⟨b,off+i*8+2,none⟩) pz).trans (hcell 2 (.int .i64 x.1.v.n) rfl)
   have k3:=fun q:Ext wr.heap.size wr=>(q.h.cell (p:=⟨b,off+i*8+3,none⟩) pz).trans (hcell 3 (.string x.1.v.s) rfl)
   have k4:=fun q:Ext wr.heap.size wr=>(q.h.cell (p:=⟨b,off+i*8+4,none⟩) pz).trans (hcell 4 (.string x.1.name) rfl)
   have k5:=fun q:Ext wr.heap.size wr=>(q.h.cell (p:=⟨b,off+i*8+5,none⟩) pz).trans (hcell 5 (.int .i64 x.1.width) rfl)
   have k6:=fun q:Ext wr.heap.size wr=>(q.h.cell (p:=⟨b,off+i*8+6,none⟩) pz).trans (hcell 6 (.slice x.1.A x.1.n x.1.c) rfl)
   have k7:=fun q:Ext wr.heap.size wr=>(q.h.cell (p:=⟨b,off+i*8+7,none⟩) pz).trans (hcell 7 (.string x.2) rfl)
   have m0:=fun q:Ext wr.heap.size wr=>(q.h.cell (p:=⟨b2,fS+i*8,none⟩) jb).trans (cS 0 (.int .u8 u.1.op) rfl)
   have m1:=fun q:Ext wr.heap.size wr=>(q.h.cell (p:=⟨b2,fS+i*8+1,none⟩) jb).trans (cS 1 (.int .u8 u.1.v.k) rfl)
   have m2:=fun q:Ext wr.heap.size wr=>(q.h.cell (p:=⟨b2,fS+i*8+2,none⟩) jb).trans (cS 2 (.int .i64 u.1.v.n) rfl)
   have m3:=fun q:Ext wr.heap.size wr=>(q.h.cell (p:=⟨b2,fS+i*8+3,none⟩) jb).trans (cS 3 (.string u.1.v.s) rfl)
   have m4:=fun q:Ext wr.heap.size wr=>(q.h.cell (p:=⟨b2,fS+i*8+4,none⟩) jb).trans (cS 4 (.string u.1.name) rfl)
   have m5:=fun q:Ext wr.heap.size wr=>(q.h.cell (p:=⟨b2,fS+i*8+5,none⟩) jb).trans (cS 5 (.int .i64 u.1.width) rfl)
   have m6:=fun q:Ext wr.heap.size wr=>(q.h.cell (p:=⟨b2,fS+i*8+6,none⟩) jb).trans (cS 6 (.slice u.1.A u.1.n u.1.c) rfl)
   have m7:=fun q:Ext wr.heap.size wr=>(q.h.cell (p:=⟨b2,fS+i*8+7,none⟩) jb).trans (cS 7 (.string u.2) rfl)
   have p2:=fun q:Ext wr.heap.size wr=>(q.h.cell (p:=⟨QX,0,none⟩) (HX.out.later iY).lt).trans x0
   have p3:=fun q:Ext wr.heap.size wr=>(q.h.cell (p:=⟨QZ,0,none⟩) (HZ.out.later iY).lt).trans z0
   have Yr:=hid (Yo.out t (List.mem_of_getElem? ht));have yX:=fun q:Ext wr.heap.size wr=>Tr.zF hS ud t.1 x.1 u.1 r1.1 r2.1 Yr.out q.w (hwr.trans (q.h.mono hwr.size))
   have heq:u.2=x.2:=by rw[r1.2,r2.2]
   obtain⟨x,xa⟩:=x;obtain⟨u,ua⟩:=u;simp only at heq yX k0 m0 k1 m1 k2 m2 k3 m3 k4 m4 k5 m5 k6 m6 k7 m7;subst heq;have f0:(ua.toList != ua.toList)=false:=by simp
   unfold ee bl at yX;clear hcell cS hc hc2 hx hu ht hwr r1 r2;subst uk xM;go_upto_region 6 with fail
   clear x0 z0;refine fY 29 wr.heap.size wr (Below.refl _ _) (by kernel_rfl) (by kernel_rfl) (by kernel_rfl) (by kernel_rfl) ?_;simp only[List.take_succ_cons,List.take_zero,List.drop_succ_cons,List.drop_zero];repeat (go_big_quiet_step (fail))
   go_big_quiet_step ((go_at_call 29;exact ji (Nat.le_refl _) (yX _)));repeat (go_big_quiet_step (fail))
   refine wpQuiet_nil ?_;rintro V4 ⟨x9,yD⟩;have xN:=x9.h;rw[← yD] at xN;have hb1:=ah.then gI.out xN
   clear yD x9 k0 m0 k1 m1 k2 m2 k3 m3 k4 m4 k5 m5 k6 m6 k7 m7 p2 p3 xN yX f0;go_wp2_with fail;go_roundw;case rel=>exact⟨i+1,by omega,by go_num,hb1⟩
   case measure=>simp[intOf];omega
  ·obtain rfl:i=ib:=by omega
   go_wp2_with fail;clear x0 z0 iY;go_loopw [6] (fun iv wr=>∃i:Nat,i≤ie∧iv=.int .i64 i∧Below W1.heap.size W1 wr) (fun iv _=>ie - (intOf iv).toNat);case atStart=>exact⟨0,Nat.zero_le _,rfl,gI.out⟩
   case round=>
    obtain⟨i,hi,rfl,iY⟩:=hrel;have x6:=(HX.out.later iY).cell 6;have z6:=(HZ.out.later iY).cell 6;simp only[List.getElem?_toArray,List.getElem?_cons_zero,List.getElem?_cons_succ] at x6 z6;have gI:=hid iY;by_cases hlt:i < ie
    ·obtain⟨x,hx⟩:∃x:Ex×Bool,UF[i]?=some x:=⟨_,List.getElem?_eq_getElem (by have h1:=zH.out;have h2:=Jq.out.len;omega)⟩;obtain⟨u,hu⟩:∃u:Ex×Bool,UG[i]?=some u:=⟨_,List.getElem?_eq_getElem (by have h1:=zH.out;have h2:=Jr.out.len;omega)⟩;obtain⟨t,ht⟩:∃t,Nt[i]?=some t:=⟨_,List.getElem?_eq_getElem (by have h1:=zH.out;omega)⟩;have r1:=jc Jq.out ht hx;have r2:=jc Jr.out ht hu;have hwr:Below w.heap.size w wr:=CE.out.trans (iY.mono CE.out.size);rcases Yk.out with h0 |⟨b,off,uk,rq,hc⟩
     ·subst h0;simp at hx
     rcases Yl.out with h0 |⟨b2,fS,xM,oB,hc2⟩
     ·subst h0;simp at hu
     have pz:b < wr.heap.size:=Nat.lt_of_lt_of_le (hS b rq) hwr.size;have jb:b2 < wr.heap.size:=Nat.lt_of_lt_of_le (ud b2 oB) hwr.size;have hcell:=fun j v hv=>(hwr.cell (p:=⟨b,off+i*8+j,none⟩) (hS b rq)).trans (hc i x j v hx hv)
     have cS:=fun j v hv=>(hwr.cell (p:=⟨b2,fS+i*8+j,none⟩) (ud b2 oB)).trans (hc2 i u j v hu hv)
     have k0:=fun q:Ext wr.heap.size wr=>(q.h.cell (p:=⟨b,off+i*8,none⟩) pz).trans (hcell 0 (.int .u8 x.1.op) rfl)
     have k1:=fun q:Ext wr.heap.size wr=>(q.h.cell (p:=⟨b,off+i*8+1,none⟩) pz).trans (hcell 1 (.int .u8 x.1.v.k) rfl)
     have k2:=fun q:Ext wr.heap.size wr=>(q.h.cell (p:=⟨b,off+i*8+2,none⟩) pz).trans (hcell 2 (.int .i64 x.1.v.n) rfl)
     have k3:=fun q:Ext wr.heap.size wr=>(q.h.cell (p:=⟨b,off+i*8+3,none⟩) pz).trans (hcell 3 (.string x.1.v.s) rfl)
     have k4:=fun q:Ext wr.heap.size wr=>(q.h.cell (p:=⟨b,off+i*8+4,none⟩) pz).trans (hcell 4 (.string x.1.name) rfl)
     have k5:=fun q:Ext wr.heap.size wr=>(q.h.cell (p:=⟨b,off+i*8+5,none⟩) pz).trans (hcell 5 (.int .i64 x.1.width) rfl)
     have k6:=fun q:Ext wr.heap.size wr=>(q.h.cell (p:=⟨b,off+i*8+6,none⟩) pz).trans (hcell 6 (.slice x.1.A x.1.n x.1.c) rfl)
     have k7:=fun q:Ext wr.heap.size wr=>(q.h.cell (p:=⟨b,off+i*8+7,none⟩) pz).trans (hcell 7 (.bool x.2) rfl)
     have m0:=fun q:Ext wr.heap.size wr=>(q.h.cell (p:=⟨b2,fS+i*8,none⟩) jb).trans (cS 0 (.int .u8 u.1.op) rfl)
     have m1:=fun q:Ext wr.heap.size wr=>(q.h.cell (p:=⟨b2,fS+i*8+1,none⟩) jb).trans (cS 1 (.int .u8 u.1.v.k) rfl)
     have m2:=fun q:Ext wr.heap.size wr=>(q.h.cell (p:=⟨b2,fS+i*8+2,none⟩) jb).trans (cS 2 (.int .i64 u.1.v.n) rfl)
     have m3:=fun q:Ext wr.heap.size wr=>(q.h.cell (p:=⟨b2,fS+i*8+3,none⟩) jb).trans (cS 3 (.string u.1.v.s) rfl)
     have m4:=fun q:Ext wr.heap.size wr=>(q.h.cell (p:=⟨b2,fS+i*8+4,none⟩) jb).trans (cS 4 (.string u.1.name) rfl)
     have m5:=fun q:Ext wr.heap.size wr=>(q.h.cell (p:=⟨b2,fS+i*8+5,none⟩) jb).trans (cS 5 (.int .i64 u.1.width) rfl)
     have m6:=fun q:Ext wr.heap.size wr=>(q.h.cell (p:=⟨b2,fS+i*8+6,none⟩) jb).trans (cS 6 (.slice u.1.A u.1.n u.1.c) rfl)
     have m7:=fun q:Ext wr.heap.size wr=>(q.h.cell (p:=⟨b2,fS+i*8+7,none⟩) jb).trans (cS 7 (.bool u.2) rfl)
     have p2:=fun q:Ext wr.heap.size wr=>(q.h.cell (p:=⟨QX,6,none⟩) (HX.out.later iY).lt).trans x6
     have p3:=fun q:Ext wr.heap.size wr=>(q.h.cell (p:=⟨QZ,6,none⟩) (HZ.out.later iY).lt).trans z6
     have Yr:=hid (Yp.out t (List.mem_of_getElem? ht));have yX:=fun q:Ext wr.heap.size wr=>Tr.zF hS ud t.1 x.1 u.1 r1.1 r2.1 Yr.out q.w (hwr.trans (q.h.mono hwr.size))
     have heq:u.2=x.2:=by rw[r1.2,r2.2]
     obtain⟨x,xa⟩:=x;obtain⟨u,ua⟩:=u;simp only at heq yX k0 m0 k1 m1 k2 m2 k3 m3 k4 m4 k5 m5 k6 m6 k7 m7;subst heq;have f0:(ua != ua)=false:=by simp
     unfold ee bl at yX;clear hcell cS hc hc2 hx hu ht hwr r1 r2;subst uk xM;go_upto_region 11 with fail
     clear x6 z6;refine fY 29 wr.heap.size wr (Below.refl _ _) (by kernel_rfl) (by kernel_rfl) (by kernel_rfl) (by kernel_rfl) ?_;simp only[List.take_succ_cons,List.take_zero,List.drop_succ_cons,List.drop_zero];repeat (go_big_quiet_step (fail))
     go_big_quiet_step ((go_at_call 29;exact ji (Nat.le_refl _) (yX _)));repeat (go_big_quiet_step (fail))
     refine wpQuiet_nil ?_;rintro V4 ⟨x9,yD⟩;have xN:=x9.h;rw[← yD] at xN;have hb1:=ah.then gI.out xN
     clear yD x9 k0 m0 k1 m1 k2 m2 k3 m3 k4 m4 k5 m5 k6 m6 k7 m7 p2 p3 xN yX f0;go_wp2_with fail;go_roundw;case rel=>exact⟨i+1,by omega,by go_num,hb1⟩
     case measure=>simp[intOf];omega
    ·obtain rfl:i=ie:=by omega
     go_wp2_with fail;clear x6 z6 iY;go_loopw [7] (fun iv wr=>∃i:Nat,i≤ig∧iv=.int .i64 i∧Below W1.heap.size W1 wr) (fun iv _=>ig - (intOf iv).toNat);case atStart=>exact⟨0,Nat.zero_le _,rfl,gI.out⟩
     case round=>
      obtain⟨i,hi,rfl,iY⟩:=hrel;have x7:=(HX.out.later iY).cell 7;have z7:=(HZ.out.later iY).cell 7;simp only[List.getElem?_toArray,List.getElem?_cons_zero,List.getElem?_cons_succ] at x7 z7;have gI:=hid iY;by_cases hlt:i < ig
      ·obtain⟨x,hx⟩:∃x:Int,UH[i]?=some x:=⟨_,List.getElem?_eq_getElem (by have h1:=zI.out;have h2:=Js.out.len;omega)⟩;obtain⟨u,hu⟩:∃u:Int,UI[i]?=some u:=⟨_,List.getElem?_eq_getElem (by have h1:=zI.out;have h2:=Jt.out.len;omega)⟩;obtain⟨t,ht⟩:∃t,Nu[i]?=some t:=⟨_,List.getElem?_eq_getElem (by have h1:=zI.out;omega)⟩;have r1:=jc Js.out ht hx;have r2:=jc Jt.out ht hu;have hwr:Below w.heap.size w wr:=CE.out.trans (iY.mono CE.out.size);rcases Ym.out with h0 |⟨b,off,uk,rq,hc⟩
       ·subst h0;simp at hx
       rcases Yn.out with h0 |⟨b2,fS,xM,oB,hc2⟩
       ·subst h0;simp at hu
       have pz:b < wr.heap.size:=Nat.lt_of_lt_of_le (hS b rq) hwr.size;have jb:b2 < wr.heap.size:=Nat.lt_of_lt_of_le (ud b2 oB) hwr.size;have hcell:=fun j v hv=>(hwr.cell (p:=⟨b,off+i*1+j,none⟩) (hS b rq)).trans (hc i x j v hx hv)
       have cS:=fun j v hv=>(hwr.cell (p:=⟨b2,fS+i*1+j,none⟩) (ud b2 oB)).trans (hc2 i u j v hu hv)
       have S5:=hcell 0 (.int .i64 x) rfl;simp only[Nat.mul_one,Nat.add_zero] at S5;have k0:=fun q:Ext wr.heap.size wr=>(q.h.cell (p:=⟨b,off+i,none⟩) pz).trans S5
       clear S5;have S6:=cS 0 (.int .i64 u) rfl;simp only[Nat.mul_one,Nat.add_zero] at S6;have m0:=fun q:Ext wr.heap.size wr=>(q.h.cell (p:=⟨b2,fS+i,none⟩) jb).trans S6
       clear S6;have p2:=fun q:Ext wr.heap.size wr=>(q.h.cell (p:=⟨QX,7,none⟩) (HX.out.later iY).lt).trans x7
       have p3:=fun q:Ext wr.heap.size wr=>(q.h.cell (p:=⟨QZ,7,none⟩) (HZ.out.later iY).lt).trans z7
       have heq:u=x:=by rw[show x=t from r1,show u=t from r2]
       subst heq;have f0:(u != u)=false:=by simp
       clear hcell cS hc hc2 hx hu ht hwr r1 r2;subst uk xM;go_upto_region 16 with fail
       clear x7 z7;refine fY 11 wr.heap.size wr (Below.refl _ _) (by kernel_rfl) (by kernel_rfl) (by kernel_rfl) (by kernel_rfl) ?_;simp only[List.take_succ_cons,List.take_zero,List.drop_succ_cons,List.drop_zero];repeat (go_big_quiet_step (fail))
       refine wpQuiet_nil ?_;rintro V4 ⟨x9,yD⟩;have xN:=x9.h;rw[← yD] at xN;have hb1:=ah.then gI.out xN
       clear yD x9 k0 m0 p2 p3 xN f0;go_wp2_with fail;go_roundw;case rel=>exact⟨i+1,by omega,by go_num,hb1⟩
       case measure=>simp[intOf];omega
      ·obtain rfl:i=ig:=by omega
       go_wp2_with fail;go_ret;have h1:=HB.out;rw[← oq.out] at h1;exact⟨rfl,ah.then h1 gI.out⟩
end Go.Proofs.YtcneefmaghoejaaGreatDoor
