/- Parts of the proof. -/
import Derived.Test.YtfmbcoeallmnnaaGreatDoorD39
namespace Go.Proofs.YtfmbcoeallmnnaaGreatDoor.boundHolds
open Go.ChangeShapes Go.WideShapes Go.ChangeAt Go.RowKit
set_option linter.unusedVariables false
theorem own:ownKnob Tryz.prog.godebug=none:=by kernel_rfl
theorem laidOut:laidOutB Tryz.prog=true:=by kernel_rfl
set_option maxRecDepth 100000
theorem lifted (os:Os)(started:os.Started)(H:Type)(enc:TypeId×Value→H):
  ReturnsInHanded {} Tryz.checked os 5 .any (fun w args=>(Rows.boundHoldsSpec.pre enc Tryz.prog Tryz.f5 [] false w args∧laidMetH Tryz.prog sQ w)∧sizedMet enc Tryz.prog Tryz.f5 (OpenSpec.ofChange Rows.boundHoldsSpec) false w args) (Rows.boundHoldsSpec.post enc Tryz.prog Tryz.f5 false true false false):=by
 refine Ab (C:=Tryz.checked) (X:=fun w _=>laidMetH Tryz.prog sQ w) (fun _ _ _ hh h=>h.of_heap hh) own started (by kernel_rfl) Tryz.func5
  (ChangeSpec.witness_shaped (enc:=enc) (C:=Tryz.checked) (os:=os) (X:=fun w _=>laidMetH Tryz.prog sQ w) false (Dw os) #[.slice none 0 0,.string ⟨#[]⟩,.slice none 0 0,.slice none 0 0] 8 (IB os) (uR os _) (by kernel_rfl) (by kernel_rfl) (by kernel_rfl) (Dx os _)) ?_
 intro W base args ds gs before PM hW WW hL Ri;have hE:=Nw hL;have hval:∀(j:Nat) t v,Tryz.f5.params[j]?=some t→args[j]?=some v→Value.okWide Tryz.prog W .any base t v:=PM;have hsz:(DataW.weightsEach Tryz.prog (Tryz.f5.params.toList++Rows.boundHoldsSpec.plain.varTypes Tryz.prog) (ds++gs)).all (· ≤reachBytes)=true:=WW;have YQ:=hW;obtain⟨p,q,Z9,hV,rfl,hfz,MW⟩:=hW;have hA:DataW.TrodAll enc Tryz.prog W 0 (fun _=>true) true Tryz.f5.params.toList args.toList ds p:=Z9;rw[Tryz.params5] at hA hval hsz;obtain⟨v0,vs0,d0,ds0,p0,q0,wE,rfl,rfl,h0,r0⟩:=trodAll_cons hA;obtain⟨v1,vs1,d1,ds1,p1,q1,rfl,rfl,rfl,h1,r1⟩:=trodAll_cons r0;obtain⟨v2,vs2,d2,ds2,p2,q2,rfl,rfl,rfl,h2,r2⟩:=trodAll_cons r1;obtain⟨v3,vs3,d3,ds3,p3,q3,rfl,rfl,rfl,h3,r3⟩:=trodAll_cons r2;obtain⟨rfl,rfl,rfl⟩:=trodAll_nil r3;obtain rfl:args= #[v0,v1,v2,v3]:=by cases args;simp_all
 obtain⟨rfl,rfl⟩:=trodVars_none hV;have l0:eu 22 d0:=fun n hn=>of_decide_eq_true (List.all_eq_true.1 hsz n (DataW.weights_mem_each (j:=0) rfl rfl n hn))
 have l1:eu 9 d1:=fun n hn=>of_decide_eq_true (List.all_eq_true.1 hsz n (DataW.weights_mem_each (j:=1) rfl rfl n hn))
 have l2:eu 37 d2:=fun n hn=>of_decide_eq_true (List.all_eq_true.1 hsz n (DataW.weights_mem_each (j:=2) rfl rfl n hn))
 have l3:eu 38 d3:=fun n hn=>of_decide_eq_true (List.all_eq_true.1 hsz n (DataW.weights_mem_each (j:=3) rfl rfl n hn))
 have lt0:∀x∈p0,x.block < W.heap.size:=by obtain⟨m,hm⟩:=h0;exact DataW.trod_lt m _ _ _ hm
 have lt1:∀x∈p1,x.block < W.heap.size:=by obtain⟨m,hm⟩:=h1;exact DataW.trod_lt m _ _ _ hm
 have lt2:∀x∈p2,x.block < W.heap.size:=by obtain⟨m,hm⟩:=h2;exact DataW.trod_lt m _ _ _ hm
 have lt3:∀x∈p3,x.block < W.heap.size:=by obtain⟨m,hm⟩:=h3;exact DataW.trod_lt m _ _ _ hm
 refine(Hx enc W base v0 v1 v2 v3 d0 d1 d2 d3 p0 p1 p2 p3 (hval 0 22 v0 rfl rfl) (hval 1 9 v1 rfl rfl) (hval 2 37 v2 rfl rfl) (hval 3 38 v3 rfl rfl) h0 h1 h2 h3 l0 l1 l2 l3 hE).mono fun e W' ⟨he,Fh⟩=>?_
 subst he;exact⟨_,rfl,_,_,_,[],_,[],YQ,trodAll_mk1 (shut_bool Tryz.underlying4 _),(trodAll_cons_mk (Below.trod laidOut (by kernel_rfl) (of_decide_eq_true (by kernel_rfl)) h0 Fh lt0) (trodAll_cons_mk (Below.trod laidOut (by kernel_rfl) (of_decide_eq_true (by kernel_rfl)) h1 Fh lt1) (trodAll_cons_mk (Below.trod laidOut (by kernel_rfl) (of_decide_eq_true (by kernel_rfl)) h2 Fh lt2) (trodAll_cons_mk (Below.trod laidOut (by kernel_rfl) (of_decide_eq_true (by kernel_rfl)) h3 Fh lt3) trodAll_mk0)))),rfl,Fh.frame _,fun h=>by cases h⟩
theorem over:Rows.boundHoldsRow.holds Tryz.pinned (OpenSpec.ofChange Rows.boundHoldsSpec):=
 OpenClaim.holds_of_wide 5 Tryz.f5 rfl rfl rfl rfl rfl rfl rfl ⟨rfl,rfl,rfl,rfl,rfl⟩ rfl rfl rfl rfl rfl (by kernel_rfl) Tryz.func5 (by kernel_rfl)
  (of_decide_eq_true (by kernel_rfl)) (by unfold Func.isWrapper;first |(rw[if_pos (by decide+kernel)];kernel_rfl)|(rw[if_neg (by decide+kernel)];exact⟨rfl,rfl⟩))
  (fun os started H enc _=>lifted os started H enc)
theorem stands:∀(j:Nat) t,(#[22,9,37,38]:Array TypeId)[j]?=some t→Tryz.prog.wantsStandIn t=false:=by
 intro j t ht;have hm:t∈ [22,9,37,38]:=by rw[← Array.getElem?_toList] at ht;exact List.mem_of_getElem? ht
 simp only[List.mem_cons,List.not_mem_nil,or_false] at hm;rcases hm with rfl | rfl | rfl | rfl
 ·exact(show Tryz.prog.wantsStandIn 22=false by kernel_rfl)
 ·exact(show Tryz.prog.wantsStandIn 9=false by kernel_rfl)
 ·exact(show Tryz.prog.wantsStandIn 37=false by kernel_rfl)
 ·exact(show Tryz.prog.wantsStandIn 38=false by kernel_rfl)
end Go.Proofs.YtfmbcoeallmnnaaGreatDoor.boundHolds
namespace Go.Proofs.YtfmbcoeallmnnaaGreatDoor
theorem boundHolds_proved:Rows.BoundHoldsCardSaid:=
 Claim7.holds_tied_plain_at .later [] [.data] true Rows.boundHoldsCard.stood.harness false
  boundHolds.over (fun _ h=>by cases h) (by kernel_rfl) (fun _ h=>by cases h) boundHolds_row_tie rfl ⟨rfl,rfl⟩ (by kernel_rfl) rfl
  (fun f fn hf hfn=>by
    obtain rfl:f=5:=Option.some.inj ((show Tryz.prog.funcNamed "tideline/tidelinelaw17.BoundHolds" =some 5 by kernel_rfl).symm.trans hf)|>.symm
    obtain rfl:fn=Tryz.f5:=(Option.some.inj (Tryz.func5.symm.trans hfn)).symm
    exact⟨by kernel_rfl,boundHolds.stands⟩)
  (by kernel_rfl)
#print axioms Go.Proofs.YtfmbcoeallmnnaaGreatDoor.boundHolds_proved
end Go.Proofs.YtfmbcoeallmnnaaGreatDoor
