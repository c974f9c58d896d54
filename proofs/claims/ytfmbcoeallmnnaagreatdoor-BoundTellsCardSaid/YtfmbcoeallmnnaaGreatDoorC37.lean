/- Parts of the proof. -/
import Derived.Test.YtfmbcoeallmnnaaGreatDoorCards
import Derived.Test.YtfmbcoeallmnnaaGreatDoorTie
import Derived.ShutString
import Derived.Test.YtfmbcoeallmnnaaGreatDoorC36
namespace Go.Proofs.YtfmbcoeallmnnaaGreatDoor
open Go.Lib (hid)
open Go.ChangeShapes Go.WideShapes Go.ChangeAt Go.RowKit
set_option linter.unusedVariables false
set_option linter.unusedSimpArgs false
theorem LO (ts:List Tr)(A:Option Addr)(n c:Nat)(w:World)(aS:Tr.iW ts)(hn:ts.length≤1599289640356)(hl:iH w ts A n):Calls Tryz.prog 6 #[.slice A n c] w fun e w'=>∃m:Int,e=.returned (.int .i64 m)∧Below w.heap.size w w':=by obtain⟨rfl,ys,h2,h3⟩:=hl;exact(EA A c ts ys w hn h3 h2.old (Tr.uT ts ys w aS h3)).mono fun e w' ⟨h1,h2⟩=>⟨_,h1,h2⟩
set_option maxHeartbeats 4000000
set_option maxRecDepth 100000
theorem wH (ts:List Tr)(A:Option Addr)(n c:Nat)(aq:ByteArray)(w:World)(aS:Tr.iW ts)(hl:iH w ts A n)(hn:ts.length≤1599289640356)(hE:gj w):
  Calls Tryz.prog 3 #[.slice A n c,.string aq] w fun e w'=>e=.returned (.bool true)∧Below w.heap.size w w':=by
 have HE:=hid hE;have HL:=hid hl;have vh:=hid aS;have HB:=hid (Below.refl w.heap.size w);have HN:=hid hn;clear hE hl aS hn;go_enter Tryz.func3,Tryz.ntmps3;by_cases h1:20 < n
 ·have h2:(20:Int)<(n:Int):=by omega
  have t1:=decide_eq_true h1;have t2:=decide_eq_true h2;clear h1 h2;go_wp2_with fail;refine(pg _ HE.out).mono ?_;rintro e w9 ⟨rfl,b1⟩;go_wp2_with fail;go_ret;exact⟨rfl,ae.then HB.out b1⟩
 have h2:¬(20:Int)<(n:Int):=by omega
 have t1:=decide_eq_false h1;have t2:=decide_eq_false h2;clear h1 h2;go_wp2_with fail;refine(LO ts A n c w vh.out HN.out HL.out).mono ?_;rintro e w1 ⟨m,rfl,b1⟩;replace HE:=hid (HE.out.later b1);replace HL:=hid (HL.out.later b1);replace HB:=hid (ae.then HB.out b1);clear b1;by_cases h3:500 < m
 ·have t3:=decide_eq_true h3;clear h3;go_wp2_with fail;refine(pg _ HE.out).mono ?_;rintro e w9 ⟨rfl,b1⟩;go_wp2_with fail;go_ret;exact⟨rfl,ae.then HB.out b1⟩
 have t3:=decide_eq_false h3;clear h3;by_cases h5:5000 < aq.size
 ·have h6:(5000:Int)<(aq.size:Int):=by omega
  have t5:=decide_eq_true h5;have t6:=decide_eq_true h6;clear h5 h6;go_wp2_with fail;refine(pg _ HE.out).mono ?_;rintro e w9 ⟨rfl,b1⟩;go_wp2_with fail;go_ret;exact⟨rfl,ae.then HB.out b1⟩
 have h6:¬(5000:Int)<(aq.size:Int):=by omega
 have t5:=decide_eq_false h5;have t6:=decide_eq_false h6;clear h5 h6;obtain⟨⟨vk,vn,vs⟩,lL⟩:∃z,z=iX (iD ts aq):=⟨_,rfl⟩;obtain⟨vb,G3⟩:∃z,z=(iD ts aq).isSome:=⟨_,rfl⟩;obtain⟨s,hs⟩:∃z,z=lj ts aq:=⟨_,rfl⟩;have fC:=fun W (h:iH W ts A n)=>ql ts A n c aq W vh.out h
 have VI:=fun W (h:iH W ts A n)=>CZ ts A n c aq W vh.out h
 have xB:=fun W (h:iH W ts A n) (E:gj W)=>oL ts A n c aq W vh.out h E
 have Rb:=fun W (h:iH W ts A n)=>GC ts A n c aq W vh.out h
 unfold dv fQ at fC VI;unfold cv aM at xB Rb;rw[← lL,← G3] at fC VI;rw[← hs] at xB Rb;dsimp only at fC VI;have Yf:=hid fC;have S4:=hid VI;have We:=hid xB;have Nv:=hid Rb;clear fC VI xB Rb lL G3 hs;go_wp2_with fail;refine(Yf.out _ HL.out).mono ?_;rintro e w2 ⟨rfl,b1⟩;replace HE:=hid (HE.out.later b1);replace HL:=hid (HL.out.later b1);replace HB:=hid (ae.then HB.out b1);clear b1;go_upto_region 4 with fail
 have H5:=ah.new w2 26 #[.int .u8 vk,.int .i64 vn,.string vs];have b1:=aa w2 (.cells #[.int .u8 vk,.int .i64 vn,.string vs] 26);replace HE:=hid (HE.out.later b1);replace HL:=hid (HL.out.later b1);replace HB:=hid (ae.then HB.out b1);clear b1;generalize w2.alloc _=W2 at*;generalize w2.heap.size=g5 at*;go_wp2_with fail;refine(S4.out _ HL.out).mono ?_;rintro e w3 ⟨rfl,b1⟩;replace H5:=H5.later b1;replace HE:=hid (HE.out.later b1);replace HL:=hid (HL.out.later b1);replace HB:=hid (ae.then HB.out b1);clear b1;go_upto_region 5 with fail
 have H7:=ah.new w3 26 #[.int .u8 vk,.int .i64 vn,.string vs];have b1:=aa w3 (.cells #[.int .u8 vk,.int .i64 vn,.string vs] 26);replace H5:=H5.later b1;replace HE:=hid (HE.out.later b1);replace HL:=hid (HL.out.later b1);replace HB:=hid (ae.then HB.out b1);clear b1;generalize w3.alloc _=W3 at*;generalize w3.heap.size=g7 at*;go_wp2_with fail;refine(We.out _ HL.out HE.out).mono ?_;rintro e w4 ⟨rfl,b1⟩;replace H5:=H5.later b1;replace H7:=H7.later b1;replace HE:=hid (HE.out.later b1);replace HL:=hid (HL.out.later b1);replace HB:=hid (ae.then HB.out b1);clear b1;go_wp2_with fail;refine(Nv.out _ HL.out).mono ?_;rintro e w5 ⟨rfl,b1⟩;replace H5:=H5.later b1;replace H7:=H7.later b1;replace HE:=hid (HE.out.later b1);replace HL:=hid (HL.out.later b1);replace HB:=hid (ae.then HB.out b1);clear b1;have x0:=H5.cell 0;have x1:=H5.cell 1;have x2:=H5.cell 2;have y0:=H7.cell 0;have y1:=H7.cell 1;have y2:=H7.cell 2;simp only[List.getElem?_toArray,List.getElem?_cons_zero,List.getElem?_cons_succ] at x0 x1 x2 y0 y1 y2;go_wp2_with fail;refine(pg _ HE.out).mono ?_;rintro e w6 ⟨rfl,b1⟩;go_wp2_with fail;go_ret;exact⟨rfl,ae.then HB.out b1⟩
theorem Ek {H:Type}(enc:TypeId×Value→H)(W:World)(base:Nat)(v0 v1:Value)(d0 d1:DataW H)(p0 p1:List MemPlace)
  (S5:Value.okWide Tryz.prog W .any base 22 v0) (Ua:Value.okWide Tryz.prog W .any base 9 v1)
  (k0:DataW.Trod enc Tryz.prog W 0 (fun _=>true) true 22 v0 d0 p0) (k1:DataW.Trod enc Tryz.prog W 0 (fun _=>true) true 9 v1 d1 p1)
  (l0:jT 22 d0) (l1:jT 9 d1) (hE:gj W):
  Calls Tryz.prog 3 #[v0,v1] W fun e w'=>e=.returned (.bool true)∧Below W.heap.size W w':=by
 obtain⟨ts,A,n,c,rfl,hl,aS,hn⟩:=Da S5 k0 l0;obtain⟨s,rfl,_⟩:=Go.ChangeMaps.open_string Tryz.underlying9 Ua k1;exact wH ts A n c s W aS hl hn hE
end Go.Proofs.YtfmbcoeallmnnaaGreatDoor
namespace Go.Proofs.YtfmbcoeallmnnaaGreatDoor.boundTells
open Go.Lib (hid)
open Go.ChangeShapes Go.WideShapes Go.ChangeAt Go.RowKit
set_option linter.unusedVariables false
theorem own:ownKnob Tryz.prog.godebug=none:=by kernel_rfl
theorem laidOut:laidOutB Tryz.prog=true:=by kernel_rfl
set_option maxRecDepth 100000
theorem lifted (os:Os)(started:os.Started)(H:Type)(enc:TypeId×Value→H):
  ReturnsInHanded {} Tryz.checked os 3 .any (fun w args=>(Rows.boundTellsSpec.pre enc Tryz.prog Tryz.f3 [] false w args∧laidMetH Tryz.prog xE w)∧sizedMet enc Tryz.prog Tryz.f3 (OpenSpec.ofChange Rows.boundTellsSpec) false w args) (Rows.boundTellsSpec.post enc Tryz.prog Tryz.f3 false true false false):=by
 refine GD (C:=Tryz.checked) (X:=fun w _=>laidMetH Tryz.prog xE w) (fun _ _ _ hh h=>h.of_heap hh) own started (by kernel_rfl) Tryz.func3
  (ChangeSpec.witness_shaped (enc:=enc) (C:=Tryz.checked) (os:=os) (X:=fun w _=>laidMetH Tryz.prog xE w) false (EH os) #[.slice none 0 0,.string ⟨#[]⟩] 8 (MT os) (AK os _) (by kernel_rfl) (by kernel_rfl) (by kernel_rfl) (JJ os _)) ?_
 intro W base args ds gs before VJ hW YP hL OD;have hE:=QJ hL;have hval:∀(j:Nat) t v,Tryz.f3.params[j]?=some t→args[j]?=some v→Value.okWide Tryz.prog W .any base t v:=VJ;have hsz:(DataW.weightsEach Tryz.prog (Tryz.f3.params.toList++Rows.boundTellsSpec.plain.varTypes Tryz.prog) (ds++gs)).all (· ≤reachBytes)=true:=YP;have Xn:=hW;obtain⟨p,q,S6,hV,rfl,V9,LW⟩:=hW;have hA:DataW.TrodAll enc Tryz.prog W 0 (fun _=>true) true Tryz.f3.params.toList args.toList ds p:=S6;rw[Tryz.params3] at hA hval hsz;obtain⟨v0,X0,d0,X5,p0,q0,mb,rfl,rfl,h0,r0⟩:=trodAll_cons hA;obtain⟨v1,X6,d1,X7,p1,q1,rfl,rfl,rfl,h1,r1⟩:=trodAll_cons r0;obtain⟨rfl,rfl,rfl⟩:=trodAll_nil r1;obtain rfl:args= #[v0,v1]:=by cases args;simp_all
 obtain⟨rfl,rfl⟩:=trodVars_none hV;have l0:jT 22 d0:=fun n hn=>of_decide_eq_true (List.all_eq_true.1 hsz n (DataW.weights_mem_each (j:=0) rfl rfl n hn))
 have l1:jT 9 d1:=fun n hn=>of_decide_eq_true (List.all_eq_true.1 hsz n (DataW.weights_mem_each (j:=1) rfl rfl n hn))
 have S7:∀x∈p0,x.block < W.heap.size:=by obtain⟨m,hm⟩:=h0;exact DataW.trod_lt m _ _ _ hm
 have S8:∀x∈p1,x.block < W.heap.size:=by obtain⟨m,hm⟩:=h1;exact DataW.trod_lt m _ _ _ hm
 refine(Ek enc W base v0 v1 d0 d1 p0 p1 (hval 0 22 v0 rfl rfl) (hval 1 9 v1 rfl rfl) h0 h1 l0 l1 hE).mono fun e W' ⟨he,Nj⟩=>?_
 subst he;exact⟨_,rfl,_,_,_,[],_,[],Xn,trodAll_mk1 (shut_bool Tryz.underlying4 _),(trodAll_cons_mk (Below.trod laidOut (by kernel_rfl) (of_decide_eq_true (by kernel_rfl)) h0 Nj S7) (trodAll_cons_mk (Below.trod laidOut (by kernel_rfl) (of_decide_eq_true (by kernel_rfl)) h1 Nj S8) trodAll_mk0)),rfl,Nj.frame _,fun h=>by cases h⟩
theorem over:Rows.boundTellsRow.holds Tryz.pinned (OpenSpec.ofChange Rows.boundTellsSpec):=
 OpenClaim.holds_of_wide 3 Tryz.f3 rfl rfl rfl rfl rfl rfl rfl ⟨rfl,rfl,rfl,rfl,rfl⟩ rfl rfl rfl rfl rfl (by kernel_rfl) Tryz.func3 (by kernel_rfl)
  (of_decide_eq_true (by kernel_rfl)) (by unfold Func.isWrapper;first |(rw[if_pos (by decide+kernel)];kernel_rfl)|(rw[if_neg (by decide+kernel)];exact⟨rfl,rfl⟩))
  (fun os started H enc _=>lifted os started H enc)
theorem stands:∀(j:Nat) t,(#[22,9]:Array TypeId)[j]?=some t→Tryz.prog.wantsStandIn t=false:=by
 intro j t ht;have hm:t∈ [22,9]:=by rw[← Array.getElem?_toList] at ht;exact List.mem_of_getElem? ht
 simp only[List.mem_cons,List.not_mem_nil,or_false] at hm;rcases hm with rfl | rfl
 ·exact(show Tryz.prog.wantsStandIn 22=false by kernel_rfl)
 ·exact(show Tryz.prog.wantsStandIn 9=false by kernel_rfl)
end Go.Proofs.YtfmbcoeallmnnaaGreatDoor.boundTells
namespace Go.Proofs.YtfmbcoeallmnnaaGreatDoor
theorem boundTells_proved:Rows.BoundTellsCardSaid:=
 Claim7.holds_tied_plain_at .later [] [.data] true Rows.boundTellsCard.stood.harness false
  boundTells.over (fun _ h=>by cases h) (by kernel_rfl) (fun _ h=>by cases h) boundTells_row_tie rfl ⟨rfl,rfl⟩ (by kernel_rfl) rfl
  (fun f fn hf hfn=>by
    obtain rfl:f=3:=Option.some.inj ((show Tryz.prog.funcNamed "tideline/tidelinelaw17.BoundTells" =some 3 by kernel_rfl).symm.trans hf)|>.symm
    obtain rfl:fn=Tryz.f3:=(Option.some.inj (Tryz.func3.symm.trans hfn)).symm
    exact⟨by kernel_rfl,boundTells.stands⟩)
  (by kernel_rfl)
#print axioms Go.Proofs.YtfmbcoeallmnnaaGreatDoor.boundTells_proved
end Go.Proofs.YtfmbcoeallmnnaaGreatDoor
