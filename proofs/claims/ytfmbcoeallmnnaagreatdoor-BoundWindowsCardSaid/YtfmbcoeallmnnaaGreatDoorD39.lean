/- Parts of the proof. -/
import Derived.Test.YtfmbcoeallmnnaaGreatDoorCards
import Derived.Test.YtfmbcoeallmnnaaGreatDoorTie
import Derived.ShutString
import Derived.Test.YtfmbcoeallmnnaaGreatDoorD38
namespace Go.Proofs.YtfmbcoeallmnnaaGreatDoor.boundWindows
open Go.Lib (hid)
open Go.ChangeShapes Go.WideShapes Go.ChangeAt Go.RowKit
set_option linter.unusedVariables false
theorem own:ownKnob Tryz.prog.godebug=none:=by kernel_rfl
theorem laidOut:laidOutB Tryz.prog=true:=by kernel_rfl
set_option maxRecDepth 100000
theorem lifted (os:Os)(started:os.Started)(H:Type)(enc:TypeId×Value→H):
  ReturnsInHanded {} Tryz.checked os 4 .any (fun w args=>(Rows.boundWindowsSpec.pre enc Tryz.prog Tryz.f4 [] false w args∧laidMetH Tryz.prog sQ w)∧sizedMet enc Tryz.prog Tryz.f4 (OpenSpec.ofChange Rows.boundWindowsSpec) false w args) (Rows.boundWindowsSpec.post enc Tryz.prog Tryz.f4 false true false false):=by
 refine Ab (C:=Tryz.checked) (X:=fun w _=>laidMetH Tryz.prog sQ w) (fun _ _ _ hh h=>h.of_heap hh) own started (by kernel_rfl) Tryz.func4
  (ChangeSpec.witness_shaped (enc:=enc) (C:=Tryz.checked) (os:=os) (X:=fun w _=>laidMetH Tryz.prog sQ w) false (Dw os) #[.int .i64 0,.int .i64 0,.slice none 0 0] 8 (IB os) (uR os _) (by kernel_rfl) (by kernel_rfl) (by kernel_rfl) (Dx os _)) ?_
 intro W base args ds gs before PM hW WW hL Ri;have hE:=Nw hL;have hval:∀(j:Nat) t v,Tryz.f4.params[j]?=some t→args[j]?=some v→Value.okWide Tryz.prog W .any base t v:=PM;have hsz:(DataW.weightsEach Tryz.prog (Tryz.f4.params.toList++Rows.boundWindowsSpec.plain.varTypes Tryz.prog) (ds++gs)).all (· ≤reachBytes)=true:=WW;have YQ:=hW;obtain⟨p,q,Z9,hV,rfl,hfz,MW⟩:=hW;have hA:DataW.TrodAll enc Tryz.prog W 0 (fun _=>true) true Tryz.f4.params.toList args.toList ds p:=Z9;rw[Tryz.params4] at hA hval hsz;obtain⟨v0,vs0,d0,ds0,p0,q0,wE,rfl,rfl,h0,r0⟩:=trodAll_cons hA;obtain⟨v1,vs1,d1,ds1,p1,q1,rfl,rfl,rfl,h1,r1⟩:=trodAll_cons r0;obtain⟨v2,vs2,d2,ds2,p2,q2,rfl,rfl,rfl,h2,r2⟩:=trodAll_cons r1;obtain⟨rfl,rfl,rfl⟩:=trodAll_nil r2;obtain rfl:args= #[v0,v1,v2]:=by cases args;simp_all
 obtain⟨rfl,rfl⟩:=trodVars_none hV;have l0:eu 2 d0:=fun n hn=>of_decide_eq_true (List.all_eq_true.1 hsz n (DataW.weights_mem_each (j:=0) rfl rfl n hn))
 have l1:eu 2 d1:=fun n hn=>of_decide_eq_true (List.all_eq_true.1 hsz n (DataW.weights_mem_each (j:=1) rfl rfl n hn))
 have l2:eu 22 d2:=fun n hn=>of_decide_eq_true (List.all_eq_true.1 hsz n (DataW.weights_mem_each (j:=2) rfl rfl n hn))
 have lt0:∀x∈p0,x.block < W.heap.size:=by obtain⟨m,hm⟩:=h0;exact DataW.trod_lt m _ _ _ hm
 have lt1:∀x∈p1,x.block < W.heap.size:=by obtain⟨m,hm⟩:=h1;exact DataW.trod_lt m _ _ _ hm
 have lt2:∀x∈p2,x.block < W.heap.size:=by obtain⟨m,hm⟩:=h2;exact DataW.trod_lt m _ _ _ hm
 refine(Cm enc W base v0 v1 v2 d0 d1 d2 p0 p1 p2 (hval 0 2 v0 rfl rfl) (hval 1 2 v1 rfl rfl) (hval 2 22 v2 rfl rfl) h0 h1 h2 l0 l1 l2 hE).mono fun e W' ⟨he,Fh⟩=>?_
 subst he;exact⟨_,rfl,_,_,_,[],_,[],YQ,trodAll_mk1 (shut_bool Tryz.underlying4 _),(trodAll_cons_mk (Below.trod laidOut (by kernel_rfl) (of_decide_eq_true (by kernel_rfl)) h0 Fh lt0) (trodAll_cons_mk (Below.trod laidOut (by kernel_rfl) (of_decide_eq_true (by kernel_rfl)) h1 Fh lt1) (trodAll_cons_mk (Below.trod laidOut (by kernel_rfl) (of_decide_eq_true (by kernel_rfl)) h2 Fh lt2) trodAll_mk0))),rfl,Fh.frame _,fun h=>by cases h⟩
theorem over:Rows.boundWindowsRow.holds Tryz.pinned (OpenSpec.ofChange Rows.boundWindowsSpec):=
 OpenClaim.holds_of_wide 4 Tryz.f4 rfl rfl rfl rfl rfl rfl rfl ⟨rfl,rfl,rfl,rfl,rfl⟩ rfl rfl rfl rfl rfl (by kernel_rfl) Tryz.func4 (by kernel_rfl)
  (of_decide_eq_true (by kernel_rfl)) (by unfold Func.isWrapper;first |(rw[if_pos (by decide+kernel)];kernel_rfl)|(rw[if_neg (by decide+kernel)];exact⟨rfl,rfl⟩))
  (fun os started H enc _=>lifted os started H enc)
theorem stands:∀(j:Nat) t,(#[2,2,22]:Array TypeId)[j]?=some t→Tryz.prog.wantsStandIn t=false:=by
 intro j t ht;have hm:t∈ [2,2,22]:=by rw[← Array.getElem?_toList] at ht;exact List.mem_of_getElem? ht
 simp only[List.mem_cons,List.not_mem_nil,or_false] at hm;rcases hm with rfl | rfl | rfl
 ·exact(show Tryz.prog.wantsStandIn 2=false by kernel_rfl)
 ·exact(show Tryz.prog.wantsStandIn 2=false by kernel_rfl)
 ·exact(show Tryz.prog.wantsStandIn 22=false by kernel_rfl)
end Go.Proofs.YtfmbcoeallmnnaaGreatDoor.boundWindows
namespace Go.Proofs.YtfmbcoeallmnnaaGreatDoor
theorem boundWindows_proved:Rows.BoundWindowsCardSaid:=
 Claim7.holds_tied_plain_at .later [] [.data] true Rows.boundWindowsCard.stood.harness false
  boundWindows.over (fun _ h=>by cases h) (by kernel_rfl) (fun _ h=>by cases h) boundWindows_row_tie rfl ⟨rfl,rfl⟩ (by kernel_rfl) rfl
  (fun f fn hf hfn=>by
    obtain rfl:f=4:=Option.some.inj ((show Tryz.prog.funcNamed "tideline/tidelinelaw17.BoundWindows" =some 4 by kernel_rfl).symm.trans hf)|>.symm
    obtain rfl:fn=Tryz.f4:=(Option.some.inj (Tryz.func4.symm.trans hfn)).symm
    exact⟨by kernel_rfl,boundWindows.stands⟩)
  (by kernel_rfl)
#print axioms Go.Proofs.YtfmbcoeallmnnaaGreatDoor.boundWindows_proved
open Go.Lib (hid)
open Go.ChangeShapes Go.WideShapes Go.ChangeAt Go.RowKit
set_option linter.unusedVariables false
set_option linter.unusedSimpArgs false
theorem uF {ts:List Tr} {aA:ByteArray}(h:(fF ts aA).isSome=true∨eN ts aA≠aY):mM ts=true:=by
 by_cases hg:mM ts=true
 ·exact hg
 ·unfold fF eN at h;rw[if_neg hg,if_neg hg] at h;rcases h with h | h
  ·cases h
  ·exact absurd rfl h
theorem LR {t:Tr}(h:mM [t]=true):t.safe=true:=by unfold mM at h;rw[Bool.and_eq_true,Bool.and_eq_true] at h;exact h.2.2
theorem LS {t:Tr} {aA:ByteArray} {cols:List ik} {row:List Val}(h:(fF [t] aA).isSome=true∨eN [t] aA≠aY):Calm (gY (t.eval cols row)).2:=
 KH (Tr.calm cols row t (LR (uF h)))
theorem vX {t:Tr} {cols:List ik} {row:List Val}(h:gY (t.eval cols row)=(true,0)):(t.eval cols row).2=0∧Tv (t.eval cols row).1:=by
 have h0:(t.eval cols row).2=0:=by
  by_cases h1:(t.eval cols row).2=0
  ·exact h1
  ·unfold gY at h;rw[if_pos h1] at h;exact absurd (congrArg Prod.fst h) (show¬false=true by decide)
 exact Re (mX cols row t h0) h
theorem Ht {t:Tr} {aA:ByteArray} {cols:List ik} {row:List Val} {x:Val}(h:gY (t.eval cols row)=(true,0))(hx:row.getD (bE aA cols) ah=x)(hs:(fF [t] aA).isSome=true):x=lp (fF [t] aA):=by
 have hg:=uF (.inl hs);cases hv:fF [t] aA with
 | none=>rw[hv] at hs;cases hs
 | some v=>unfold fF at hv;rw[if_pos hg] at hv;exact Tr.xp cols row aA x hx t (vX h).1 (vX h).2 v hv
theorem LU {t:Tr} {aA:ByteArray} {cols:List ik} {row:List Val} {x:Val}(h:gY (t.eval cols row)=(true,0))(hx:row.getD (bE aA cols) ah=x)(hk:x.k=2)(hl:dz≤x.n)(hh:x.n < bR):(eN [t] aA).a≤x.n∧x.n <(eN [t] aA).b:=by
 unfold eN;split
 ·exact Tr.zZ cols row aA x hx hk hl hh t (vX h).1 (vX h).2
 ·exact⟨hl,hh⟩
theorem PN {ts:List Tr} {aA:ByteArray}(h:(fF ts aA).isSome=true∨eN ts aA≠aY):ts.length=1:=by obtain⟨t,rfl,_⟩:=tX (uF h);rfl
def gX (aA:ByteArray)(cols:List ik)(j:Nat):Int:=if bE aA (cols.drop j)<(cols.drop j).length then((j+bE aA (cols.drop j):Nat):Int)else -1
theorem Fb (aA:ByteArray)(cols:List ik):gX aA cols cols.length= -1:=by unfold gX;rw[List.drop_length];rfl
theorem Fc {aA:ByteArray} {cols:List ik} {j:Nat}(hj:j < cols.length)(h:(cols[j].name.toList==aA.toList)=true):gX aA cols j=j:=by unfold gX;rw[List.drop_eq_getElem_cons hj,wK h,if_pos (by simp only[List.length_cons];omega)];rfl
theorem Hu {aA:ByteArray} {cols:List ik} {j:Nat}(hj:j < cols.length)(h:(cols[j].name.toList==aA.toList)=false):gX aA cols j=gX aA cols (j+1):=by
 unfold gX;rw[List.drop_eq_getElem_cons hj,zL h];by_cases h1:bE aA (cols.drop (j+1))<(cols.drop (j+1)).length
 ·rw[if_pos h1,if_pos (by simp only[List.length_cons];omega)];congr 1;omega
 ·rw[if_neg h1,if_neg (by simp only[List.length_cons];omega)]
theorem Cn {aA:ByteArray} {cols:List ik}(h:0≤gX aA cols 0):gX aA cols 0=bE aA cols:=by
 unfold gX at h ⊢;split at h
 ·rename_i h1;rw[if_pos h1,List.drop_zero,Nat.zero_add]
 ·omega
theorem PO (t:Tr)(cols:List ik)(CA:Option Addr)(cc:Nat)(row:List Val)(RA:Option Addr)(rc:Nat)(dT:cols.length≤140737488355328)(lX:row.length≤140737488355328)(hro:∀v∈row,v.Ok)(A:Option Addr)(n c:Nat)(w:World)(aZ:Tr.iO [t])(hl:jo w [t] A n)(hC:RC w w.heap.size CA cols)(hV:RV w w.heap.size RA row):
  Calls Tryz.prog 13 #[.slice A n c,.slice CA cols.length cc,.slice RA row.length rc] w fun e w'=>e=.returned (.tuple #[.bool (gY (t.eval cols row)).1,.int .i64 (gY (t.eval cols row)).2])∧Below w.heap.size w w':=by
 obtain⟨rfl,y,h2,h3⟩:=hl.one;unfold Tr.iO at aZ;exact MQ A 1 c (by decide) (by decide) y [] _ _ (t.eval cols row) w h2 (Tr.Io cols CA cc row RA rc dT lX hro t y w aZ.1 h3 hC hV)
def WX (s:Sp)(vb ne:Bool)(A:Option Addr)(n c:Nat):Nat→World→Value→Prop
 | 0,_,v=>v=.agg #[.int .i64 s.a,.int .i64 s.b]
 | 1,_,v=>v=.agg #[.int .i64 (-4611687117939015680),.int .i64 4611687117939015679]
 | 2,_,v=>v=.agg #[.int .i64 s.a,.int .i64 s.b]
 | 3,_,v=>v=.agg #[.int .i64 s.a,.int .i64 s.b]
 | 4,_,v=>v=.bool false
 | 5,_,v=>v=.bool false
 | 6,_,v=>v=(cond vb (.bool true) (.bool false))
 | 7,_,v=>v=(cond vb (.bool true) (.bool false))
 | 8,_,v=>v=(cond vb (undef) (.agg #[.int .i64 s.a,.int .i64 s.b]))
 | 9,_,v=>v=(cond vb (undef) (.agg #[.int .i64 (-4611687117939015680),.int .i64 4611687117939015679]))
 | 10,_,v=>v=(cond vb (undef) ((cond ne (.bool true) (.bool false))))
 | 11,_,v=>v=(cond vb (.bool true) ((cond ne (.bool true) (.bool false))))
 | 12,_,v=>v=(cond vb (.bool true) ((cond ne (.bool true) (.bool false))))
 | 13,_,v=>v=(cond vb (.slice A n c) ((cond ne (.slice A n c) (undef))))
 | 14,_,v=>v=(cond vb (.int .i64 n) ((cond ne (.int .i64 n) (undef))))
 | 15,_,v=>v=(cond vb (.bool false) ((cond ne (.bool false) (undef))))
 | 16,_,v=>v=.bool false
 | 17,_,v=>v=.bool false
 | _,_,_=>False
theorem Hv (s:Sp)(vb ne:Bool)(A:Option Addr)(n c:Nat):∀i w w' v,WX s vb ne A n c i w v→ae w w'→WX s vb ne A n c i w' v:=by
 intro i w w' v h hl
 match i with
 | 0 | 1 | 2 | 3 | 4 | 5 | 6 | 7 | 8 | 9 | 10 | 11 | 12 | 13 | 14 | 15 | 16 | 17=>exact h
 | n+18=>exact h
set_option maxHeartbeats 4000000
set_option maxRecDepth 100000
theorem yJ (ts:List Tr)(A:Option Addr)(n c:Nat)(aA:ByteArray)(cols:List ik)(CA:Option Addr)(cc:Nat)(row:List Val)(RA:Option Addr)(rc:Nat)(w:World)(aZ:Tr.iO ts)(hl:jo w ts A n)(hn:ts.length≤1599289640356)(hC:RC w w.heap.size CA cols)(dT:cols.length≤140737488355328)(hV:RV w w.heap.size RA row)(lX:row.length≤140737488355328)(hro:∀v∈row,v.Ok)(hE:fQ w):
  Calls Tryz.prog 5 #[.slice A n c,.string aA,.slice CA cols.length cc,.slice RA row.length rc] w fun e w'=>e=.returned (.bool true)∧Below w.heap.size w w':=by
 have HE:=hid hE;have HL:=hid hl;have HC:=hid hC;have HV:=hid hV;have Cr:=hid aZ;have HB:=hid (Below.refl w.heap.size w);have HN:=hid hn;have J0:=hid dT;have D5:=hid lX;have HRO:=hid hro;clear hE hl aZ hn hC hV dT lX hro;go_enter Tryz.func5,Tryz.ntmps5;by_cases h1:20 < n
 ·have h2:(20:Int)<(n:Int):=by omega
  have t1:=decide_eq_true h1;have s1:=decide_eq_true h2;clear h1 h2;go_wp2_with fail;refine(ct _ HE.out).mono ?_;rintro e w9 ⟨rfl,b1⟩;go_wp2_with fail;go_ret;exact⟨rfl,ae.then HB.out b1⟩
 have h2:¬(20:Int)<(n:Int):=by omega
 have t1:=decide_eq_false h1;have s1:=decide_eq_false h2;clear h1 h2;go_wp2_with fail;refine(EX ts A n c w Cr.out HN.out HL.out).mono ?_;rintro e w1 ⟨m,rfl,b1⟩;replace HE:=hid (HE.out.later b1);replace HL:=hid (HL.out.later b1);replace HC:=hid (HC.out.later b1);replace HV:=hid (HV.out.later b1);replace HB:=hid (ae.then HB.out b1);clear b1;by_cases h3:500 < m
 ·have t9:=decide_eq_true h3;clear h3;go_wp2_with fail;refine(ct _ HE.out).mono ?_;rintro e w9 ⟨rfl,b1⟩;go_wp2_with fail;go_ret;exact⟨rfl,ae.then HB.out b1⟩
 have t9:=decide_eq_false h3;clear h3;by_cases h1:20 < cols.length
 ·have h2:(20:Int)<(cols.length:Int):=by omega
  have t2:=decide_eq_true h1;have s2:=decide_eq_true h2;clear h1 h2;go_wp2_with fail;refine(ct _ HE.out).mono ?_;rintro e w9 ⟨rfl,b1⟩;go_wp2_with fail;go_ret;exact⟨rfl,ae.then HB.out b1⟩
 have h2:¬(20:Int)<(cols.length:Int):=by omega
 have t2:=decide_eq_false h1;have s2:=decide_eq_false h2;clear h1 h2;by_cases h1:20 < row.length
 ·have h2:(20:Int)<(row.length:Int):=by omega
  have t3:=decide_eq_true h1;have s3:=decide_eq_true h2;clear h1 h2;go_wp2_with fail;refine(ct _ HE.out).mono ?_;rintro e w9 ⟨rfl,b1⟩;go_wp2_with fail;go_ret;exact⟨rfl,ae.then HB.out b1⟩
 have h2:¬(20:Int)<(row.length:Int):=by omega
 have t3:=decide_eq_false h1;have s3:=decide_eq_false h2;clear h1 h2;by_cases h1:5000 < aA.size
 ·have h2:(5000:Int)<(aA.size:Int):=by omega
  have t4:=decide_eq_true h1;have s4:=decide_eq_true h2;clear h1 h2;go_wp2_with fail;refine(ct _ HE.out).mono ?_;rintro e w9 ⟨rfl,b1⟩;go_wp2_with fail;go_ret;exact⟨rfl,ae.then HB.out b1⟩
 have h2:¬(5000:Int)<(aA.size:Int):=by omega
 have t4:=decide_eq_false h1;have s4:=decide_eq_false h2;clear h1 h2;go_wp2_with fail;clear t1 s1 t2 s2 t3 s3 t4 s4 t9;go_loop [9] (fun iv=>∃i:Nat,i≤row.length∧iv=.int .i64 i) (fun iv=>row.length - (intOf iv).toNat);case atStart=>exact⟨0,Nat.zero_le _,rfl⟩
 case round=>
  obtain⟨i,hi,rfl⟩:=hrel;by_cases hlt:i < row.length
  ·have lX:=D5.out;obtain⟨b,off,rfl,hb,hx⟩:=HV.out.at_ hlt;unfold eE at hx;generalize YA:row[i]=xi at hx;clear YA;by_cases h1:5000 < xi.s.size
   ·have h2:(5000:Int)<(xi.s.size:Int):=by omega
    have t1:=decide_eq_true h1;have t2:=decide_eq_true h2;clear h1 h2;go_wp2_with fail;refine(ct _ HE.out).mono ?_;rintro e w9 ⟨rfl,b1⟩;go_wp2_with fail;go_ret;exact⟨rfl,ae.then HB.out b1⟩
   ·have h2:¬(5000:Int)<(xi.s.size:Int):=by omega
    have t1:=decide_eq_false h1;have t2:=decide_eq_false h2;clear h1 h2;go_wp2_with fail;go_round;case rel=>exact⟨i+1,hlt,by go_num⟩
    case measure=>simp[intOf];omega
  ·obtain rfl:i=row.length:=by omega
   have u1:decide (row.length < row.length)=false:=by simp
   have u2:decide ((row.length:Int)<(row.length:Int))=false:=by simp
   clear hi hlt;obtain⟨⟨vk,vn,vs⟩,lU⟩:∃z,z=lp (fF ts aA):=⟨_,rfl⟩;obtain⟨vb,Td⟩:∃z,z=(fF ts aA).isSome:=⟨_,rfl⟩;obtain⟨s,hs⟩:∃z,z=eN ts aA:=⟨_,rfl⟩;obtain⟨ne,hne⟩:∃ne:Bool,(ne=true→s≠aY)∧(ne=false→s=aY):=by
    by_cases h:s=aY
    ·exact⟨false,fun h=>(by cases h),fun _=>h⟩
    ·exact⟨true,fun _=>h,fun h=>(by cases h)⟩
   have fP:=fun W (h:jo W ts A n)=>rr ts A n c aA W Cr.out h
   have J1:=fun W (h:jo W ts A n) (E:fQ W)=>jy ts A n c aA W Cr.out h E
   unfold fy gO at fP;unfold ej cC at J1;rw[← lU,← Td] at fP;rw[← hs] at J1;dsimp only at fP;have hand:bT s aY=s:=by rw[hs];exact(Kb ts aA).QP
   have WY:vb=true∨ne=true→(fF ts aA).isSome=true∨eN ts aA≠aY:=by
    rintro(h | h)
    ·exact .inl (by rw[← Td];exact h)
    ·exact .inr (by rw[← hs];exact hne.1 h)
   have jT:vb=true∨ne=true→n=1:=fun h=>by have h1:=PN (WY h);have h2:=HL.out.1;omega
   have G8:=hid fP;have D9:=hid J1;have O1:=hid lU;have Xf:=hid Td;have HS:=hid hs;have J2:=hid hne;have HAND:=hid hand;have E7:=hid WY;have lS:=hid jT;clear fP J1 lU Td hs hne hand WY jT;go_wp2_with fail;clear u1 u2;refine(D9.out _ HL.out HE.out).mono ?_;rintro e w2 ⟨rfl,b1⟩;replace HE:=hid (HE.out.later b1);replace HL:=hid (HL.out.later b1);replace HC:=hid (HC.out.later b1);replace HV:=hid (HV.out.later b1);replace HB:=hid (ae.then HB.out b1);clear b1;go_upto_region 9 with fail
   have jw:=ag.new w2 30 #[.int .i64 s.a,.int .i64 s.b];have b1:=aa w2 (.cells #[.int .i64 s.a,.int .i64 s.b] 30);replace HE:=hid (HE.out.later b1);replace HL:=hid (HL.out.later b1);replace HC:=hid (HC.out.later b1);replace HV:=hid (HV.out.later b1);replace HB:=hid (ae.then HB.out b1);clear b1;generalize w2.alloc _=W2 at*;generalize w2.heap.size=LW at*;go_wp2_with fail;refine(G8.out _ HL.out).mono ?_;rintro e w3 ⟨rfl,b1⟩;replace jw:=jw.later b1;replace HE:=hid (HE.out.later b1);replace HL:=hid (HL.out.later b1);replace HC:=hid (HC.out.later b1);replace HV:=hid (HV.out.later b1);replace HB:=hid (ae.then HB.out b1);clear b1;go_upto_region 10 with fail
   have SF:=ag.new w3 26 #[.int .u8 vk,.int .i64 vn,.string vs];have b1:=aa w3 (.cells #[.int .u8 vk,.int .i64 vn,.string vs] 26);replace jw:=jw.later b1;replace HE:=hid (HE.out.later b1);replace HL:=hid (HL.out.later b1);replace HC:=hid (HC.out.later b1);replace HV:=hid (HV.out.later b1);replace HB:=hid (ae.then HB.out b1);clear b1;generalize w3.alloc _=W3 at*;generalize w3.heap.size=g11 at*;go_upto_region 11 with fail
   have oB:=ag.new W3 30 #[.int .i64 (-4611687117939015680),.int .i64 4611687117939015679];have b1:=aa W3 (.cells #[.int .i64 (-4611687117939015680),.int .i64 4611687117939015679] 30);replace jw:=jw.later b1;replace SF:=SF.later b1;replace HE:=hid (HE.out.later b1);replace HL:=hid (HL.out.later b1);replace HC:=hid (HC.out.later b1);replace HV:=hid (HV.out.later b1);replace HB:=hid (ae.then HB.out b1);clear b1;generalize W3.alloc _=W4 at*;generalize W3.heap.size=QX at*;clear G8 D9;refine qi 18 (WX s vb ne A n c) (Hv _ _ _ _ _ _) (by kernel_rfl) (by kernel_rfl) (by kernel_rfl) ?_ ?_
   ·simp only[List.take_succ_cons,List.take_zero];refine⟨?_,?_,?_,?_,?_,?_,?_,?_,?_,?_,?_,?_,?_,?_,?_,?_,?_,?_,trivial⟩
    ·intro ρ w3 hc hL hr;have h0:ρ (.tmp 10)=.pointer (some ⟨LW,0,none⟩):=hr.1;have cc:=ar (jw.later hL);exact ai (w':=w3) (by simp[go_sem,h0,cc.1,cc.2];done) ⟨ae.refl _,rfl⟩
    ·intro ρ w3 hc hL hr;have h0:ρ (.tmp 13)=.pointer (some ⟨QX,0,none⟩):=hr.1;have cc:=ar (oB.later hL);exact ai (w':=w3) (by simp[go_sem,h0,cc.1,cc.2];done) ⟨ae.refl _,rfl⟩
    ·intro ρ w3 hc hL hr;have h0:ρ (.tmp 67)=.agg #[.int .i64 s.a,.int .i64 s.b]:=hr.1;have h1:ρ (.tmp 68)=.agg #[.int .i64 (-4611687117939015680),.int .i64 4611687117939015679]:=hr.2.1;have e1:=hc.func 12;have hw:=jI s aY w3;rw[HAND.out] at hw;unfold ej cC at hw;refine fZ (f:=12) (args:= #[.agg #[.int .i64 s.a,.int .i64 s.b],.agg #[.int .i64 (-4611687117939015680),.int .i64 4611687117939015679]]) (w':=w3) (by simp[go_sem,e1,h0,h1];done) ?_;refine hw.mono ?_;rintro e w4 ⟨rfl,b4⟩;exact⟨_,rfl,b4,rfl⟩
    ·intro ρ w3 hc hL hr;have h0:ρ (.tmp 10)=.pointer (some ⟨LW,0,none⟩):=hr.1;have cc:=ar (jw.later hL);exact ai (w':=w3) (by simp[go_sem,h0,cc.1,cc.2];done) ⟨ae.refl _,rfl⟩
    ·intro ρ w3 hc hL hr;have h0:ρ (.tmp 69)=.agg #[.int .i64 s.a,.int .i64 s.b]:=hr.1;have h1:ρ (.tmp 70)=.agg #[.int .i64 s.a,.int .i64 s.b]:=hr.2.1;exact ai (v:=.bool false) (w':=w3) (by simp[go_sem,hc.const,h0,h1];done) ⟨ae.refl _,rfl⟩
    ·intro ρ w3 hc hL hr;have h0:ρ (.tmp 71)=.bool false:=hr.1;exact ai (v:=.bool false) (w':=w3) (by simp[go_sem,hc.const,h0];done) ⟨ae.refl _,rfl⟩
    ·intro ρ w3 hc hL hr;cases vb
     ·skip
      intro hg;have hg:ρ (.tmp 72)=.bool false:=hg;refine⟨fun _=>?_,fun hn=>absurd hg hn⟩;have h0:ρ (.tmp 12)=.bool false:=hr.1;exact ai (v:=.bool false) (w':=w3) (by simp[go_sem,hc.const,h0];done) ⟨ae.refl _,rfl⟩
     ·skip
      intro hg;have hg:ρ (.tmp 72)=.bool false:=hg;refine⟨fun _=>?_,fun hn=>absurd hg hn⟩;have h0:ρ (.tmp 12)=.bool true:=hr.1;exact ai (v:=.bool true) (w':=w3) (by simp[go_sem,hc.const,h0];done) ⟨ae.refl _,rfl⟩
    ·intro ρ w3 hc hL hr;cases vb
     ·skip
      intro hg;have hg:ρ (.tmp 72)=.bool false:=hg;refine⟨fun _=>?_,fun hn=>absurd hg hn⟩;have h0:ρ (.tmp 73)=.bool false:=hr.1;exact ai (v:=.bool false) (w':=w3) (by simp[go_sem,hc.const,h0];done) ⟨ae.refl _,rfl⟩
     ·skip
      intro hg;have hg:ρ (.tmp 72)=.bool false:=hg;refine⟨fun _=>?_,fun hn=>absurd hg hn⟩;have h0:ρ (.tmp 73)=.bool true:=hr.1;exact ai (v:=.bool true) (w':=w3) (by simp[go_sem,hc.const,h0];done) ⟨ae.refl _,rfl⟩
    ·intro ρ w3 hc hL hr;cases vb
     ·skip
      intro hg;have hg:ρ (.tmp 74)=.bool false:=hg;refine⟨fun _=>?_,fun hn=>absurd hg hn⟩;have h0:ρ (.tmp 10)=.pointer (some ⟨LW,0,none⟩):=hr.1;have cc:=ar (jw.later hL);exact ai (w':=w3) (by simp[go_sem,h0,cc.1,cc.2];done) ⟨ae.refl _,rfl⟩
     ·skip
      intro hg;have hg:ρ (.tmp 74)=.bool true:=hg;exact⟨fun hn=>(by rw[hg] at hn;cases hn),fun _=>rfl⟩
    ·intro ρ w3 hc hL hr;cases vb
     ·skip
      intro hg;have hg:ρ (.tmp 74)=.bool false:=hg;refine⟨fun _=>?_,fun hn=>absurd hg hn⟩;have h0:ρ (.tmp 13)=.pointer (some ⟨QX,0,none⟩):=hr.1;have cc:=ar (oB.later hL);exact ai (w':=w3) (by simp[go_sem,h0,cc.1,cc.2];done) ⟨ae.refl _,rfl⟩
     ·skip
      intro hg;have hg:ρ (.tmp 74)=.bool true:=hg;exact⟨fun hn=>(by rw[hg] at hn;cases hn),fun _=>rfl⟩
    ·intro ρ w3 hc hL hr;cases vb
     ·skip
      cases ne
      ·skip
       intro hg;have hg:ρ (.tmp 74)=.bool false:=hg;refine⟨fun _=>?_,fun hn=>absurd hg hn⟩;have h0:ρ (.tmp 75)=.agg #[.int .i64 s.a,.int .i64 s.b]:=hr.1;have h1:ρ (.tmp 76)=.agg #[.int .i64 (-4611687117939015680),.int .i64 4611687117939015679]:=hr.2.1;have e2:=J2.out.2 rfl;subst e2;exact ai (v:=.bool false) (w':=w3) (by simp[go_sem,h0,h1,aY,dz,bR];done) ⟨ae.refl _,rfl⟩
      ·skip
       intro hg;have hg:ρ (.tmp 74)=.bool false:=hg;refine⟨fun _=>?_,fun hn=>absurd hg hn⟩;have h0:ρ (.tmp 75)=.agg #[.int .i64 s.a,.int .i64 s.b]:=hr.1;have h1:ρ (.tmp 76)=.agg #[.int .i64 (-4611687117939015680),.int .i64 4611687117939015679]:=hr.2.1;have e2:=PK (J2.out.1 rfl);exact ai (v:=.bool true) (w':=w3) (by simp[go_sem,h0,h1];exact e2) ⟨ae.refl _,rfl⟩
     ·skip
      cases ne
      ·skip
       intro hg;have hg:ρ (.tmp 74)=.bool true:=hg;exact⟨fun hn=>(by rw[hg] at hn;cases hn),fun _=>rfl⟩
      ·skip
       intro hg;have hg:ρ (.tmp 74)=.bool true:=hg;exact⟨fun hn=>(by rw[hg] at hn;cases hn),fun _=>rfl⟩
    ·intro ρ w3 hc hL hr;cases vb
     ·skip
      cases ne
      ·skip
       intro hg;have hg:ρ (.tmp 72)=.bool false:=hg;refine⟨fun _=>?_,fun hn=>absurd hg hn⟩;have h0:ρ (.tmp 74)=.bool false:=hr.1;have h1:ρ (.tmp 77)=.bool false:=hr.2.1;exact ai (v:=.bool false) (w':=w3) (by simp[go_sem,hc.const,h0,h1];done) ⟨ae.refl _,rfl⟩
      ·skip
       intro hg;have hg:ρ (.tmp 72)=.bool false:=hg;refine⟨fun _=>?_,fun hn=>absurd hg hn⟩;have h0:ρ (.tmp 74)=.bool false:=hr.1;have h1:ρ (.tmp 77)=.bool true:=hr.2.1;exact ai (v:=.bool true) (w':=w3) (by simp[go_sem,hc.const,h0,h1];done) ⟨ae.refl _,rfl⟩
     ·skip
      cases ne
      ·skip
       intro hg;have hg:ρ (.tmp 72)=.bool false:=hg;refine⟨fun _=>?_,fun hn=>absurd hg hn⟩;have h0:ρ (.tmp 74)=.bool true:=hr.1;have h1:ρ (.tmp 77)=undef:=hr.2.1;exact ai (v:=.bool true) (w':=w3) (by simp[go_sem,hc.const,h0,h1];done) ⟨ae.refl _,rfl⟩
      ·skip
       intro hg;have hg:ρ (.tmp 72)=.bool false:=hg;refine⟨fun _=>?_,fun hn=>absurd hg hn⟩;have h0:ρ (.tmp 74)=.bool true:=hr.1;have h1:ρ (.tmp 77)=undef:=hr.2.1;exact ai (v:=.bool true) (w':=w3) (by simp[go_sem,hc.const,h0,h1];done) ⟨ae.refl _,rfl⟩
    ·intro ρ w3 hc hL hr;cases vb
     ·skip
      cases ne
      ·skip
       intro hg;have hg:ρ (.tmp 72)=.bool false:=hg;refine⟨fun _=>?_,fun hn=>absurd hg hn⟩;have h0:ρ (.tmp 78)=.bool false:=hr.1;exact ai (v:=.bool false) (w':=w3) (by simp[go_sem,hc.const,h0];done) ⟨ae.refl _,rfl⟩
      ·skip
       intro hg;have hg:ρ (.tmp 72)=.bool false:=hg;refine⟨fun _=>?_,fun hn=>absurd hg hn⟩;have h0:ρ (.tmp 78)=.bool true:=hr.1;exact ai (v:=.bool true) (w':=w3) (by simp[go_sem,hc.const,h0];done) ⟨ae.refl _,rfl⟩
     ·skip
      cases ne
      ·skip
       intro hg;have hg:ρ (.tmp 72)=.bool false:=hg;refine⟨fun _=>?_,fun hn=>absurd hg hn⟩;have h0:ρ (.tmp 78)=.bool true:=hr.1;exact ai (v:=.bool true) (w':=w3) (by simp[go_sem,hc.const,h0];done) ⟨ae.refl _,rfl⟩
      ·skip
       intro hg;have hg:ρ (.tmp 72)=.bool false:=hg;refine⟨fun _=>?_,fun hn=>absurd hg hn⟩;have h0:ρ (.tmp 78)=.bool true:=hr.1;exact ai (v:=.bool true) (w':=w3) (by simp[go_sem,hc.const,h0];done) ⟨ae.refl _,rfl⟩
    ·intro ρ w3 hc hL hr;cases vb
     ·skip
      cases ne
      ·skip
       intro hg;have hg:ρ (.tmp 79)=.bool false:=hg;exact⟨fun hn=>(by rw[hg] at hn;cases hn),fun _=>rfl⟩
      ·skip
       intro hg;have hg:ρ (.tmp 79)=.bool true:=hg;refine⟨fun _=>?_,fun hn=>absurd hg hn⟩;have h0:ρ (.tmp 0)=.slice A n c:=hr.1;exact ai (v:=.slice A n c) (w':=w3) (by simp[go_sem,hc.const,h0];done) ⟨ae.refl _,rfl⟩
     ·skip
      cases ne
      ·skip
       intro hg;have hg:ρ (.tmp 79)=.bool true:=hg;refine⟨fun _=>?_,fun hn=>absurd hg hn⟩;have h0:ρ (.tmp 0)=.slice A n c:=hr.1;exact ai (v:=.slice A n c) (w':=w3) (by simp[go_sem,hc.const,h0];done) ⟨ae.refl _,rfl⟩
      ·skip
       intro hg;have hg:ρ (.tmp 79)=.bool true:=hg;refine⟨fun _=>?_,fun hn=>absurd hg hn⟩;have h0:ρ (.tmp 0)=.slice A n c:=hr.1;exact ai (v:=.slice A n c) (w':=w3) (by simp[go_sem,hc.const,h0];done) ⟨ae.refl _,rfl⟩
    ·intro ρ w3 hc hL hr;cases vb
     ·skip
      cases ne
      ·skip
       intro hg;have hg:ρ (.tmp 79)=.bool false:=hg;exact⟨fun hn=>(by rw[hg] at hn;cases hn),fun _=>rfl⟩
      ·skip
       intro hg;have hg:ρ (.tmp 79)=.bool true:=hg;refine⟨fun _=>?_,fun hn=>absurd hg hn⟩;have h0:ρ (.tmp 80)=.slice A n c:=hr.1;exact ai (v:=.int .i64 n) (w':=w3) (by simp[go_sem,hc.const,h0];done) ⟨ae.refl _,rfl⟩
     ·skip
      cases ne
      ·skip
       intro hg;have hg:ρ (.tmp 79)=.bool true:=hg;refine⟨fun _=>?_,fun hn=>absurd hg hn⟩;have h0:ρ (.tmp 80)=.slice A n c:=hr.1;exact ai (v:=.int .i64 n) (w':=w3) (by simp[go_sem,hc.const,h0];done) ⟨ae.refl _,rfl⟩
      ·skip
       intro hg;have hg:ρ (.tmp 79)=.bool true:=hg;refine⟨fun _=>?_,fun hn=>absurd hg hn⟩;have h0:ρ (.tmp 80)=.slice A n c:=hr.1;exact ai (v:=.int .i64 n) (w':=w3) (by simp[go_sem,hc.const,h0];done) ⟨ae.refl _,rfl⟩
    ·intro ρ w3 hc hL hr;cases vb
     ·skip
      cases ne
      ·skip
       intro hg;have hg:ρ (.tmp 79)=.bool false:=hg;exact⟨fun hn=>(by rw[hg] at hn;cases hn),fun _=>rfl⟩
      ·skip
       intro hg;have hg:ρ (.tmp 79)=.bool true:=hg;refine⟨fun _=>?_,fun hn=>absurd hg hn⟩;have h0:ρ (.tmp 81)=.int .i64 n:=hr.1;have e1:=lS.out (by simp);subst e1;exact ai (v:=.bool false) (w':=w3) (by simp[go_sem,hc.const,h0];done) ⟨ae.refl _,rfl⟩
     ·skip
      cases ne
      ·skip
       intro hg;have hg:ρ (.tmp 79)=.bool true:=hg;refine⟨fun _=>?_,fun hn=>absurd hg hn⟩;have h0:ρ (.tmp 81)=.int .i64 n:=hr.1;have e1:=lS.out (by simp);subst e1;exact ai (v:=.bool false) (w':=w3) (by simp[go_sem,hc.const,h0];done) ⟨ae.refl _,rfl⟩
      ·skip
       intro hg;have hg:ρ (.tmp 79)=.bool true:=hg;refine⟨fun _=>?_,fun hn=>absurd hg hn⟩;have h0:ρ (.tmp 81)=.int .i64 n:=hr.1;have e1:=lS.out (by simp);subst e1;exact ai (v:=.bool false) (w':=w3) (by simp[go_sem,hc.const,h0];done) ⟨ae.refl _,rfl⟩
    ·intro ρ w3 hc hL hr;cases vb
     ·skip
      cases ne
      ·skip
       intro hg;have hg:ρ (.tmp 72)=.bool false:=hg;refine⟨fun _=>?_,fun hn=>absurd hg hn⟩;have h0:ρ (.tmp 79)=.bool false:=hr.1;have h1:ρ (.tmp 82)=undef:=hr.2.1;exact ai (v:=.bool false) (w':=w3) (by simp[go_sem,hc.const,h0,h1];done) ⟨ae.refl _,rfl⟩
      ·skip
       intro hg;have hg:ρ (.tmp 72)=.bool false:=hg;refine⟨fun _=>?_,fun hn=>absurd hg hn⟩;have h0:ρ (.tmp 79)=.bool true:=hr.1;have h1:ρ (.tmp 82)=.bool false:=hr.2.1;exact ai (v:=.bool false) (w':=w3) (by simp[go_sem,hc.const,h0,h1];done) ⟨ae.refl _,rfl⟩
     ·skip
      cases ne
      ·skip
       intro hg;have hg:ρ (.tmp 72)=.bool false:=hg;refine⟨fun _=>?_,fun hn=>absurd hg hn⟩;have h0:ρ (.tmp 79)=.bool true:=hr.1;have h1:ρ (.tmp 82)=.bool false:=hr.2.1;exact ai (v:=.bool false) (w':=w3) (by simp[go_sem,hc.const,h0,h1];done) ⟨ae.refl _,rfl⟩
      ·skip
       intro hg;have hg:ρ (.tmp 72)=.bool false:=hg;refine⟨fun _=>?_,fun hn=>absurd hg hn⟩;have h0:ρ (.tmp 79)=.bool true:=hr.1;have h1:ρ (.tmp 82)=.bool false:=hr.2.1;exact ai (v:=.bool false) (w':=w3) (by simp[go_sem,hc.const,h0,h1];done) ⟨ae.refl _,rfl⟩
    ·intro ρ w3 hc hL hr;have h0:ρ (.tmp 72)=.bool false:=hr.1;have h1:ρ (.tmp 83)=.bool false:=hr.2.1;exact ai (v:=.bool false) (w':=w3) (by simp[go_sem,hc.const,h0,h1];done) ⟨ae.refl _,rfl⟩
   intro w5 hL;simp only[List.take_succ_cons,List.take_zero,List.drop_succ_cons,List.drop_zero];intro a0 q0 a1 q1 a2 q2 a3 q3 a4 q4 a5 q5 a6 q6 a7 q7 a8 q8 a9 q9 Z6 ZV a11 ZW a12 ZX Z7 Wl a14 S5 a15 q15 a16 q16 a17 q17;clear q0;clear q1;clear q2;clear q3;clear q4;clear q5;clear q6;clear q7;clear q8;clear q9;clear ZV;clear ZW;clear ZX;clear Wl;clear S5;clear q15;clear q16;replace q17: .bool false=a17:=Eq.symm q17;subst q17;simp only[cN,Act.put,List.setIfInBounds_toArray,List.set_cons_succ,List.set_cons_zero];have b1:=hL;clear hL HAND;replace jw:=jw.later b1;replace SF:=SF.later b1;replace oB:=oB.later b1;replace HE:=hid (HE.out.later b1);replace HL:=hid (HL.out.later b1);replace HC:=hid (HC.out.later b1);replace HV:=hid (HV.out.later b1);replace HB:=hid (ae.then HB.out b1);clear b1;by_cases rQ:n=1;case neg=>
    have v1:decide (n=1)=false:=by simp[rQ]
    have v2:decide ((n:Int)=1)=false:=by simp;omega
    have v3:((n:Int)==1)=false:=by simp;omega
    have v4:(n==1)=false:=by simp[rQ]
    clear rQ;go_wp2_with fail;refine(ct _ HE.out).mono ?_;rintro e w9 ⟨rfl,b1⟩;go_wp2_with fail;go_ret;exact⟨rfl,ae.then HB.out b1⟩
   obtain⟨WU, -, -, -⟩:=id HL.out;obtain⟨t,Z1⟩:∃t,ts=[t]:=by
    rcases ts with _ |⟨t,_ |⟨t2,ts⟩⟩
    ·simp only[List.length_nil] at WU;omega
    ·exact⟨t,rfl⟩
    ·simp only[List.length_cons] at WU;omega
   clear WU;subst Z1 rQ;obtain⟨yes,SG⟩:∃z,z=(gY (t.eval cols row)).1:=⟨_,rfl⟩;obtain⟨er,her⟩:∃z,z=(gY (t.eval cols row)).2:=⟨_,rfl⟩;have Uh:vb=true∨ne=true→Calm er:=fun h=>by rw[her];exact LS (E7.out h)
   have Ss:=fun W (h:jo W [t] A 1) (h1:RC W W.heap.size CA cols) (h2:RV W W.heap.size RA row)=>PO t cols CA cc row RA rc J0.out D5.out HRO.out A 1 c W Cr.out h h1 h2
   rw[← SG,← her] at Ss;have Ta:yes=true→er=0→gY (t.eval cols row)=(true,0):=fun h1 h2=>by rw[h1] at SG;rw[h2] at her;exact Prod.ext SG.symm her.symm
   have HTR:=hid Ss;have YS:=hid Ta;have Ui:=hid Uh;clear Ss Ta Uh SG her lS;have v3:(((1:Nat):Int)==1)=true:=by decide
   go_wp2_with fail;refine(HTR.out _ HL.out HC.out HV.out).mono ?_;rintro e w6 ⟨rfl,b1⟩;replace jw:=jw.later b1;replace SF:=SF.later b1;replace oB:=oB.later b1;replace HE:=hid (HE.out.later b1);replace HL:=hid (HL.out.later b1);replace HC:=hid (HC.out.later b1);replace HV:=hid (HV.out.later b1);replace HB:=hid (ae.then HB.out b1);clear b1;clear HTR;go_upto_region 16 with fail
   go_cut [109] (fun sv wx=>sv=.bool false∧wx=w6);case first=>
    have Z6:=ar jw;have Z7:=ar oB;have hc:=Ui.out;cases vb
    ·cases ne
     ·have e2:=J2.out.2 rfl;unfold aY dz bR at e2;subst e2;clear hc;dsimp only at Z6;go_wp2_with fail;all_goals
       go_meet;exact⟨rfl,rfl⟩
     ·obtain⟨c1,c2⟩:=hc (by simp);have d1:decide (er=43)=false:=by simp[c1]
      have d2:decide (er=44)=false:=by simp[c2]
      have d3:(er==43)=false:=by simp[c1]
      have d4:(er==44)=false:=by simp[c2]
      clear c1 c2;go_wp2_with fail;all_goals
       go_meet;exact⟨rfl,rfl⟩
    ·obtain⟨c1,c2⟩:=hc (by simp);have d1:decide (er=43)=false:=by simp[c1]
     have d2:decide (er=44)=false:=by simp[c2]
     have d3:(er==43)=false:=by simp[c1]
     have d4:(er==44)=false:=by simp[c2]
     clear c1 c2;go_wp2_with fail;all_goals
      go_meet;exact⟨rfl,rfl⟩
   case rest=>
   obtain⟨rfl,rfl⟩:=hcut;clear Ui;have dT:=J0.out;go_wp2_with fail;clear v3;go_loop [16,17] (fun av iv=>∃j:Nat,j≤cols.length∧iv=.int .i64 ((j:Int) - 1)∧av=.int .i64 (gX aA cols j)) (fun _ iv=>(intOf iv+1).toNat);case atStart=>have dT:=J0.out;exact⟨cols.length,Nat.le_refl _,by go_num,by rw[Fb]⟩
   case round=>
    obtain⟨j,hj,rfl,rfl⟩:=hrel;cases j with
    | succ j=>
      have dT:=J0.out;rw[show((j+1:Nat):Int) - 1=(j:Int) by omega];obtain⟨b,off,rfl,hb,F6⟩:=HC.out.at_ hj;unfold si at F6;have f1:= @Fc aA cols j hj;have f2:= @Hu aA cols j hj;generalize gX aA cols (j+1)=av at*;generalize cols[j]=xc at*;by_cases hm:(xc.name.toList==aA.toList)=true
      ·have HF:=hid (f1 hm);clear f1 f2;go_wp2_with fail;go_round;case rel=>exact⟨j,by omega,by go_num,by rw[HF.out]⟩
       case measure=>(simp[intOf])<;> omega
      ·replace hm:(xc.name.toList==aA.toList)=false:=by simpa using hm
       have HF:=hid (f2 hm);clear f1 f2;go_wp2_with fail;go_round;case rel=>exact⟨j,by omega,by go_num,by rw[HF.out]⟩
       case measure=>(simp[intOf])<;> omega
    | zero=>
      rw[show((0:Nat):Int) - 1= -1 by omega];have Xs:= @Cn aA cols;generalize gX aA cols 0=fa at*;have HFA:=hid Xs;clear Xs hj;cases yes
      ·skip
       go_wp2_with fail;refine(ct _ HE.out).mono ?_;rintro e w9 ⟨rfl,b1⟩;go_wp2_with fail;go_ret;exact⟨rfl,ae.then HB.out b1⟩
      by_cases he:er=0;case neg=>
       have v1:decide (er=0)=false:=by simp[he]
       have v2:(er==0)=false:=by simp[he]
       have v3:(er != 0)=true:=by simp[he]
       clear he;go_wp2_with fail;refine(ct _ HE.out).mono ?_;rintro e w9 ⟨rfl,b1⟩;go_wp2_with fail;go_ret;exact⟨rfl,ae.then HB.out b1⟩
      subst he;by_cases J3:fa < 0
      ·have v1:=decide_eq_true J3;clear J3;go_wp2_with fail;refine(ct _ HE.out).mono ?_;rintro e w9 ⟨rfl,b1⟩;go_wp2_with fail;go_ret;exact⟨rfl,ae.then HB.out b1⟩
      obtain⟨k,hk⟩:∃k:Nat,k=bE aA cols:=⟨_,rfl⟩;have hfk:fa=k:=by rw[hk];exact HFA.out (by omega)
      have HK:=hid hk;clear hk HFA;subst hfk;have v1:=decide_eq_false J3;clear J3;by_cases hlt:k < row.length;case neg=>have v2:decide (k < row.length)=false:=decide_eq_false hlt;have v3:decide ((row.length:Int)≤(k:Int))=true:=decide_eq_true (by omega);have v4:decide (row.length≤k)=true:=decide_eq_true (by omega);clear hlt;go_wp2_with fail;refine(ct _ HE.out).mono ?_;rintro e w9 ⟨rfl,b1⟩;go_wp2_with fail;go_ret;exact⟨rfl,ae.then HB.out b1⟩
      have v2:decide (k < row.length)=true:=decide_eq_true hlt;have v3:decide ((row.length:Int)≤(k:Int))=false:=decide_eq_false (by omega);have v4:decide (row.length≤k)=false:=decide_eq_false (by omega);obtain⟨b,off,rfl,hb,hx⟩:=HV.out.at_ hlt;unfold eE at hx;have hgd:row.getD (bE aA cols) ah=row[k]:=by rw[← HK.out,List.getD_eq_getElem?_getD,List.getElem?_eq_getElem hlt];rfl
      generalize row[k]=x at*;have Ss:=YS.out rfl rfl;have hval:vb=true→x=⟨vk,vn,vs⟩:=fun h=>by rw[O1.out];exact Ht Ss hgd (by rw[← Xf.out];exact h)
      have E8:x.k=2→dz≤x.n→x.n < bR→s.a≤x.n∧x.n < s.b:=fun h1 h2 h3=>by rw[HS.out];exact LU Ss hgd h1 h2 h3
      have aae:=hid hval;have WZ:=hid E8;clear hval E8 Ss hgd YS O1 Xf HS E7 J2 HK;obtain⟨xk,xn,xs⟩:=x;dsimp only at hx WZ;go_upto_region 27 with fail
      have Xa:=ag.new wc 26 #[.int .u8 xk,.int .i64 xn,.string xs];have b1:=aa wc (.cells #[.int .u8 xk,.int .i64 xn,.string xs] 26);replace jw:=jw.later b1;replace SF:=SF.later b1;replace oB:=oB.later b1;replace HE:=hid (HE.out.later b1);replace HL:=hid (HL.out.later b1);replace HC:=hid (HC.out.later b1);replace HV:=hid (HV.out.later b1);replace HB:=hid (ae.then HB.out b1);clear b1;clear hx hb v2 v3 v4 hlt;generalize wc.alloc _=W8 at*;generalize wc.heap.size=g18 at*;have c18:=ay Xa;have c11:=ay SF;have c10:=ar jw;have c13:=ar oB;have qw:=Iu aY xn;have zz:=Iu s xn;cases vb
      ·skip
       by_cases hk2:xk=2;case neg=>
        have m1:decide (xk=2)=false:=by simp[hk2]
        have m2:(xk==2)=false:=by simp[hk2]
        have m3:(xk != 2)=true:=by simp[hk2]
        clear hk2;go_wp2_with fail;refine(ct _ HE.out).mono ?_;rintro e Lj ⟨rfl,b1⟩;go_wp2_with fail;go_ret;exact⟨rfl,ae.then HB.out b1⟩
       subst hk2;by_cases og:dz≤xn∧xn < bR;case neg=>
        have m1:(decide (aY.a≤xn)&& decide (xn < aY.b))=false:=by rw[Bool.and_eq_false_iff,decide_eq_false_iff_not,decide_eq_false_iff_not];exact Decidable.not_and_iff_not_or_not.1 og
        rw[m1] at qw;unfold cC aY dz bR at qw;have Hw:=hid qw;clear qw zz og m1;go_wp2_with fail;refine(Hw.out _).mono ?_;rintro e w9 ⟨rfl,b1⟩;replace HE:=hid (HE.out.later b1);replace HB:=hid (ae.then HB.out b1);go_wp2_with fail;refine(ct _ HE.out).mono ?_;rintro e Lj ⟨rfl,b1⟩;go_wp2_with fail;go_ret;exact⟨rfl,ae.then HB.out b1⟩
       have hsp:=WZ.out rfl og.1 og.2;have m1:(decide (aY.a≤xn)&& decide (xn < aY.b))=true:=by rw[Bool.and_eq_true,decide_eq_true_iff,decide_eq_true_iff];exact og
       have m2:(decide (s.a≤xn)&& decide (xn < s.b))=true:=by rw[Bool.and_eq_true,decide_eq_true_iff,decide_eq_true_iff];exact hsp
       rw[m1] at qw;rw[m2] at zz;unfold cC aY dz bR at qw;unfold cC at zz;have Hw:=hid qw;have Xb:=hid zz;clear qw zz og m1 m2 hsp;go_wp2_with fail;refine(Hw.out _).mono ?_;rintro e w9 ⟨rfl,b1⟩;replace jw:=jw.later b1;replace Xa:=Xa.later b1;replace HE:=hid (HE.out.later b1);replace HB:=hid (ae.then HB.out b1);clear c18 c11 c10 c13;have c18:=ay Xa;have c10:=ar jw;go_wp2_with fail;refine(Xb.out _).mono ?_;rintro e oD ⟨rfl,b1⟩;replace HE:=hid (HE.out.later b1);replace HB:=hid (ae.then HB.out b1);go_wp2_with fail;refine(ct _ HE.out).mono ?_;rintro e U5 ⟨rfl,b1⟩;go_wp2_with fail;go_ret;exact⟨rfl,ae.then HB.out b1⟩
      ·have QQ:=aae.out rfl;injection QQ with e1 e2 e3;subst e1 e2 e3;by_cases hk2:xk=2;case neg=>
        have m1:decide (xk=2)=false:=by simp[hk2]
        have m2:(xk==2)=false:=by simp[hk2]
        have m3:(xk != 2)=true:=by simp[hk2]
        clear hk2;go_wp2_with fail;refine(ct _ HE.out).mono ?_;rintro e Lj ⟨rfl,b1⟩;go_wp2_with fail;go_ret;exact⟨rfl,ae.then HB.out b1⟩
       subst hk2;by_cases og:dz≤xn∧xn < bR;case neg=>
        have m1:(decide (aY.a≤xn)&& decide (xn < aY.b))=false:=by rw[Bool.and_eq_false_iff,decide_eq_false_iff_not,decide_eq_false_iff_not];exact Decidable.not_and_iff_not_or_not.1 og
        rw[m1] at qw;unfold cC aY dz bR at qw;have Hw:=hid qw;clear qw zz og m1;go_wp2_with fail;refine(Hw.out _).mono ?_;rintro e w9 ⟨rfl,b1⟩;replace HE:=hid (HE.out.later b1);replace HB:=hid (ae.then HB.out b1);go_wp2_with fail;refine(ct _ HE.out).mono ?_;rintro e Lj ⟨rfl,b1⟩;go_wp2_with fail;go_ret;exact⟨rfl,ae.then HB.out b1⟩
       have hsp:=WZ.out rfl og.1 og.2;have m1:(decide (aY.a≤xn)&& decide (xn < aY.b))=true:=by rw[Bool.and_eq_true,decide_eq_true_iff,decide_eq_true_iff];exact og
       have m2:(decide (s.a≤xn)&& decide (xn < s.b))=true:=by rw[Bool.and_eq_true,decide_eq_true_iff,decide_eq_true_iff];exact hsp
       rw[m1] at qw;rw[m2] at zz;unfold cC aY dz bR at qw;unfold cC at zz;have Hw:=hid qw;have Xb:=hid zz;clear qw zz og m1 m2 hsp;go_wp2_with fail;refine(Hw.out _).mono ?_;rintro e w9 ⟨rfl,b1⟩;replace jw:=jw.later b1;replace Xa:=Xa.later b1;replace HE:=hid (HE.out.later b1);replace HB:=hid (ae.then HB.out b1);clear c18 c11 c10 c13;have c18:=ay Xa;have c10:=ar jw;go_wp2_with fail;refine(Xb.out _).mono ?_;rintro e oD ⟨rfl,b1⟩;replace HE:=hid (HE.out.later b1);replace HB:=hid (ae.then HB.out b1);go_wp2_with fail;refine(ct _ HE.out).mono ?_;rintro e U5 ⟨rfl,b1⟩;go_wp2_with fail;go_ret;exact⟨rfl,ae.then HB.out b1⟩
theorem Hx {H:Type}(enc:TypeId×Value→H)(W:World)(base:Nat)(v0 v1 v2 v3:Value)(d0 d1 d2 d3:DataW H)(p0 p1 p2 p3:List MemPlace)
  (Z8:Value.okWide Tryz.prog W .any base 22 v0) (YU:Value.okWide Tryz.prog W .any base 9 v1) (Xh:Value.okWide Tryz.prog W .any base 37 v2) (ok3:Value.okWide Tryz.prog W .any base 38 v3)
  (k0:DataW.Trod enc Tryz.prog W 0 (fun _=>true) true 22 v0 d0 p0) (k1:DataW.Trod enc Tryz.prog W 0 (fun _=>true) true 9 v1 d1 p1) (k2:DataW.Trod enc Tryz.prog W 0 (fun _=>true) true 37 v2 d2 p2) (k3:DataW.Trod enc Tryz.prog W 0 (fun _=>true) true 38 v3 d3 p3)
  (l0:eu 22 d0) (l1:eu 9 d1) (l2:eu 37 d2) (l3:eu 38 d3) (hE:fQ W):
  Calls Tryz.prog 5 #[v0,v1,v2,v3] W fun e w'=>e=.returned (.bool true)∧Below W.heap.size W w':=by
 obtain⟨ts,A,n,c,rfl,hl,aZ,hn⟩:=xz Z8 k0 l0;obtain⟨aA,rfl,_⟩:=Go.ChangeMaps.open_string Tryz.underlying9 YU k1;obtain⟨CA,cols,cc,rfl,hC,dT,_⟩:=JZ Xh k2 l2;obtain⟨RA,row,rc,rfl,hV,lX,hro⟩:=Ka ok3 k3 l3;exact yJ ts A n c aA cols CA cc row RA rc W aZ hl hn hC dT hV lX (fun v hv=>(hro v hv).1) hE
end Go.Proofs.YtfmbcoeallmnnaaGreatDoor
