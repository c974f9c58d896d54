/- Parts of the proof. -/
import Derived.Laws.EntriesVeiled
import Derived.Test.YtfmbcoeallmnnaaGreatDoorC2
namespace Go.Proofs.YtfmbcoeallmnnaaGreatDoor
open Go.ChangeShapes Go.WideShapes Go.ChangeAt Go.RowKit
set_option linter.unusedVariables false
set_option linter.unusedSimpArgs false
def jW (args wants gives:Int)(alike SX:Bool)(d:Value):Value:=.agg #[.int .i64 args,.int .u8 wants,.int .u8 gives,.bool alike,.bool SX,d]
def iB (w:World):Nat→Value→Prop
 | 3,v=>v=jW 1 2 2 false false (.func (.func 77) #[] #[])
 | 4,v=>v=jW 1 1 1 false false (.func (.func 79) #[] #[])
 | 5,v=>∃q,v=jW 2 2 2 false false (.func (.func 115) #[] #[.pointer (some ⟨q,0,none⟩)])∧ah w q 121 #[(.func (.func 82) #[] #[])]
 | 6,v=>∃q,v=jW 2 2 2 false false (.func (.func 115) #[] #[.pointer (some ⟨q,0,none⟩)])∧ah w q 121 #[(.func (.func 83) #[] #[])]
 | 7,v=>∃q,v=jW 2 2 2 false false (.func (.func 115) #[] #[.pointer (some ⟨q,0,none⟩)])∧ah w q 121 #[(.func (.func 84) #[] #[])]
 | 8,v=>∃q q2,v=jW 2 2 2 false false (.func (.func 115) #[] #[.pointer (some ⟨q,0,none⟩)])∧ah w q 121 #[(.func (.func 116) #[] #[.pointer (some ⟨q2,0,none⟩)])]∧ah w q2 121 #[(.func (.func 86) #[] #[])]
 | 9,v=>∃q q2,v=jW 2 2 2 false false (.func (.func 115) #[] #[.pointer (some ⟨q,0,none⟩)])∧ah w q 121 #[(.func (.func 116) #[] #[.pointer (some ⟨q2,0,none⟩)])]∧ah w q2 121 #[(.func (.func 87) #[] #[])]
 | 10,v=>∃q,v=jW 2 0 1 true false (.func (.func 117) #[] #[.pointer (some ⟨q,0,none⟩)])∧ah w q 123 #[(.func (.func 89) #[] #[])]
 | 11,v=>∃q,v=jW 2 0 1 true false (.func (.func 117) #[] #[.pointer (some ⟨q,0,none⟩)])∧ah w q 123 #[(.func (.func 90) #[] #[])]
 | 12,v=>∃q,v=jW 2 0 1 true false (.func (.func 117) #[] #[.pointer (some ⟨q,0,none⟩)])∧ah w q 123 #[(.func (.func 91) #[] #[])]
 | 13,v=>∃q,v=jW 2 0 1 true false (.func (.func 117) #[] #[.pointer (some ⟨q,0,none⟩)])∧ah w q 123 #[(.func (.func 92) #[] #[])]
 | 14,v=>∃q,v=jW 2 0 1 true false (.func (.func 117) #[] #[.pointer (some ⟨q,0,none⟩)])∧ah w q 123 #[(.func (.func 93) #[] #[])]
 | 15,v=>∃q,v=jW 2 0 1 true false (.func (.func 117) #[] #[.pointer (some ⟨q,0,none⟩)])∧ah w q 123 #[(.func (.func 94) #[] #[])]
 | 16,v=>∃q,v=jW 2 1 1 false true (.func (.func 119) #[] #[.pointer (some ⟨q,0,none⟩)])∧ah w q 4 #[.bool false]
 | 17,v=>∃q,v=jW 2 1 1 false true (.func (.func 119) #[] #[.pointer (some ⟨q,0,none⟩)])∧ah w q 4 #[.bool true]
 | 18,v=>∃q,v=jW 1 0 1 false true (.func (.func 121) #[] #[.pointer (some ⟨q,0,none⟩)])∧ah w q 4 #[.bool true]
 | 19,v=>∃q,v=jW 1 0 1 false true (.func (.func 121) #[] #[.pointer (some ⟨q,0,none⟩)])∧ah w q 4 #[.bool false]
 | 20,v=>v=jW 1 2 2 false false (.func (.func 97) #[] #[])
 | _,_=>False
theorem iB.keep {w w':World}(hk:∀(q:Nat) (t:TypeId) (cs:Array Value),ah w q t cs→ah w' q t cs):∀(k:Nat) (v:Value),iB w k v→iB w' k v:=by
 intro k v h;unfold iB at*;split at h
 ·exact h
 ·exact h
 ·obtain⟨q,h1,h2⟩:=h;exact⟨q,h1,hk _ _ _ h2⟩
 ·obtain⟨q,h1,h2⟩:=h;exact⟨q,h1,hk _ _ _ h2⟩
 ·obtain⟨q,h1,h2⟩:=h;exact⟨q,h1,hk _ _ _ h2⟩
 ·obtain⟨q,q2,h1,h2,h3⟩:=h;exact⟨q,q2,h1,hk _ _ _ h2,hk _ _ _ h3⟩
 ·obtain⟨q,q2,h1,h2,h3⟩:=h;exact⟨q,q2,h1,hk _ _ _ h2,hk _ _ _ h3⟩
 ·obtain⟨q,h1,h2⟩:=h;exact⟨q,h1,hk _ _ _ h2⟩
 ·obtain⟨q,h1,h2⟩:=h;exact⟨q,h1,hk _ _ _ h2⟩
 ·obtain⟨q,h1,h2⟩:=h;exact⟨q,h1,hk _ _ _ h2⟩
 ·obtain⟨q,h1,h2⟩:=h;exact⟨q,h1,hk _ _ _ h2⟩
 ·obtain⟨q,h1,h2⟩:=h;exact⟨q,h1,hk _ _ _ h2⟩
 ·obtain⟨q,h1,h2⟩:=h;exact⟨q,h1,hk _ _ _ h2⟩
 ·obtain⟨q,h1,h2⟩:=h;exact⟨q,h1,hk _ _ _ h2⟩
 ·obtain⟨q,h1,h2⟩:=h;exact⟨q,h1,hk _ _ _ h2⟩
 ·obtain⟨q,h1,h2⟩:=h;exact⟨q,h1,hk _ _ _ h2⟩
 ·obtain⟨q,h1,h2⟩:=h;exact⟨q,h1,hk _ _ _ h2⟩
 ·exact h
 ·exact h
def kr (w:World)(g:Nat)(es:Array MapEntry)(c:Nat):Prop:=w.heap[g]?=some (.map es c)∧∀e∈es.toList,∃k:Nat,e.key=.int .u8 k∧iB w k e.val
theorem kr.lt {w:World} {g:Nat} {es:Array MapEntry} {c:Nat}(h:kr w g es c):g < w.heap.size:=by
 rcases Nat.lt_or_ge g w.heap.size with hlt | Ck
 ·exact hlt
 ·have:=h.1;rw[Array.getElem?_eq_none Ck] at this;cases this
theorem kr.later {w w':World} {g:Nat} {es:Array MapEntry} {c:Nat}(h:kr w g es c)(hb:Below w.heap.size w w'):kr w' g es c:=
 ⟨(hb.block g h.lt).trans h.1,fun e he=>by obtain⟨k,h1,h2⟩:=h.2 e he;exact⟨k,h1,h2.keep (fun q t cs hq=>hq.later hb) _ _⟩⟩
def aI (w:World)(g:Nat)(es:Array MapEntry)(c:Nat):World:= { w with heap:=w.heap.setIfInBounds g (.map es c)}
theorem bI {B:Nat} {w0 w:World}(h:Below B w0 w)(g:Nat)(hg:B≤g)(es:Array MapEntry)(c:Nat):Below B w0 (aI w g es c):=by
 refine⟨h.os,h.tape,h.output,?_,fun k hk=>?_⟩
 ·have:=h.size;simp[aI];exact this
 ·rw[← h.block k hk];simp only[aI,Array.getElem?_setIfInBounds];rw[if_neg (by omega)]
theorem kr.push {w:World} {g:Nat} {es:Array MapEntry} {c:Nat}(h:kr w g es c)(k:Nat)(v:Value)(hv:iB w k v):kr (aI w g (es.push ⟨.int .u8 k,v,c⟩) (c+1)) g (es.push ⟨.int .u8 k,v,c⟩) (c+1):=by
 have hlt:=h.lt;have keep:∀(q:Nat) (t:TypeId) (cs:Array Value),ah w q t cs→ah (aI w g (es.push ⟨.int .u8 k,v,c⟩) (c+1)) q t cs:=by
  intro q t cs hq;have hne:g≠q:=by intro e;subst e;have h1:=h.1;unfold ah at hq;rw[hq] at h1;cases h1
  unfold ah at*;simp only[aI,Array.getElem?_setIfInBounds];rw[if_neg hne];exact hq
 refine⟨by simp[aI,hlt],fun e he=>?_⟩;rw[Array.toList_push] at he;rcases List.mem_append.1 he with he | he
 ·obtain⟨k',h1,h2⟩:=h.2 e he;exact⟨k',h1,h2.keep keep _ _⟩
 ·simp at he;subst he;exact⟨k,rfl,hv.keep keep _ _⟩
theorem uK (e:Bool)(k:Int)(w:World):(Instr.checkKey e 10000 5 (.int .u8 k)).run Tryz.prog w=.ok () w:=
 MapKept.run_checkKey Tryz.underlying5 (by simp[MapKept.IsKey]) e 9999
theorem fl (w:World)(g:Nat)(es:Array MapEntry)(c:Nat)(hg:w.heap[g]?=some (.map es c))(k:Int)(v:Value)(hf:Instr.findNow (.int .u8) (.int .u8 k) es.toList 0=some none):
  (Instr.mapUpdate 94 (.map (some g)) (.int .u8 k) v).run Tryz.prog w=.ok () (aI w g (es.push ⟨.int .u8 k,v,c⟩) (c+1)):=by
 unfold Instr.mapUpdate;simp only[Sem.run_bind,run_underlying Tryz.underlying94,Result.andThen_ok,MapKept.run_getObj_map hg,uK,Instr.findKey,run_underlying Tryz.underlying5,hf,Sem.run_pure,MapKept.run_setObj_map _ hg];rfl
def yw (fv:Value)(w:World)(e:Ending)(w':World):Prop:=∃q,e=.returned (.agg #[.int .i64 2,.int .u8 2,.int .u8 2,.bool false,.bool false,(.func (.func 115) #[] #[.pointer (some ⟨q,0,none⟩)])])∧ah w' q 121 #[fv]∧Below w.heap.size w w'
set_option maxHeartbeats 1000000
set_option maxRecDepth 100000
theorem kZ (F0:Fn)(C0:Array Value)(w:World):Calls Tryz.prog 81 #[.func F0 #[] C0] w (yw (.func F0 #[] C0) w):=by
 have SY:∀(fn:Fn) (first cap:Array Value) (w:World),(Instr.makeFunc fn first cap).run Tryz.prog w=.ok (.func fn first cap) w:=fun _ _ _ _=>rfl
 go_enter Tryz.func81,Tryz.ntmps81;go_wp2;refine bodyPost_ret (v:=.agg #[.int .i64 2,.int .u8 2,.int .u8 2,.bool false,.bool false,(.func (.func 115) #[] #[.pointer (some ⟨w.heap.size,0,none⟩)])]) ?_ rfl ?_
 ·simp[results,Tryz.results81,go_sem];try rfl
 ·exact⟨w.heap.size,rfl,(ah.new w 121 #[.func F0 #[] C0]).alloc _,by go_grown⟩
def Cx (fv:Value)(w:World)(e:Ending)(w':World):Prop:=∃q,e=.returned (.agg #[.int .i64 2,.int .u8 0,.int .u8 1,.bool true,.bool false,(.func (.func 117) #[] #[.pointer (some ⟨q,0,none⟩)])])∧ah w' q 123 #[fv]∧Below w.heap.size w w'
theorem ik (F0:Fn)(C0:Array Value)(w:World):Calls Tryz.prog 88 #[.func F0 #[] C0] w (Cx (.func F0 #[] C0) w):=by
 have SY:∀(fn:Fn) (first cap:Array Value) (w:World),(Instr.makeFunc fn first cap).run Tryz.prog w=.ok (.func fn first cap) w:=fun _ _ _ _=>rfl
 go_enter Tryz.func88,Tryz.ntmps88;go_wp2;refine bodyPost_ret (v:=.agg #[.int .i64 2,.int .u8 0,.int .u8 1,.bool true,.bool false,(.func (.func 117) #[] #[.pointer (some ⟨w.heap.size,0,none⟩)])]) ?_ rfl ?_
 ·simp[results,Tryz.results88,go_sem];try rfl
 ·exact⟨w.heap.size,rfl,(ah.new w 123 #[.func F0 #[] C0]).alloc _,by go_grown⟩
def Cy (fv:Bool)(w:World)(e:Ending)(w':World):Prop:=∃q,e=.returned (.agg #[.int .i64 2,.int .u8 1,.int .u8 1,.bool false,.bool true,(.func (.func 119) #[] #[.pointer (some ⟨q,0,none⟩)])])∧ah w' q 4 #[.bool fv]∧Below w.heap.size w w'
theorem xh (fv:Bool)(w:World):Calls Tryz.prog 95 #[.bool fv] w (Cy fv w):=by
 have SY:∀(fn:Fn) (first cap:Array Value) (w:World),(Instr.makeFunc fn first cap).run Tryz.prog w=.ok (.func fn first cap) w:=fun _ _ _ _=>rfl
 go_enter Tryz.func95,Tryz.ntmps95;go_wp2;refine bodyPost_ret (v:=.agg #[.int .i64 2,.int .u8 1,.int .u8 1,.bool false,.bool true,(.func (.func 119) #[] #[.pointer (some ⟨w.heap.size,0,none⟩)])]) ?_ rfl ?_
 ·simp[results,Tryz.results95,go_sem];try rfl
 ·exact⟨w.heap.size,rfl,(ah.new w 4 #[.bool fv]).alloc _,by go_grown⟩
def Cz (fv:Bool)(w:World)(e:Ending)(w':World):Prop:=∃q,e=.returned (.agg #[.int .i64 1,.int .u8 0,.int .u8 1,.bool false,.bool true,(.func (.func 121) #[] #[.pointer (some ⟨q,0,none⟩)])])∧ah w' q 4 #[.bool fv]∧Below w.heap.size w w'
theorem xi (fv:Bool)(w:World):Calls Tryz.prog 96 #[.bool fv] w (Cz fv w):=by
 have SY:∀(fn:Fn) (first cap:Array Value) (w:World),(Instr.makeFunc fn first cap).run Tryz.prog w=.ok (.func fn first cap) w:=fun _ _ _ _=>rfl
 go_enter Tryz.func96,Tryz.ntmps96;go_wp2;refine bodyPost_ret (v:=.agg #[.int .i64 1,.int .u8 0,.int .u8 1,.bool false,.bool true,(.func (.func 121) #[] #[.pointer (some ⟨w.heap.size,0,none⟩)])]) ?_ rfl ?_
 ·simp[results,Tryz.results96,go_sem];try rfl
 ·exact⟨w.heap.size,rfl,(ah.new w 4 #[.bool fv]).alloc _,by go_grown⟩
def Mj (F0:Fn)(C0:Array Value)(w:World)(e:Ending)(w':World):Prop:=∃q q2,e=.returned (.agg #[.int .i64 2,.int .u8 2,.int .u8 2,.bool false,.bool false,(.func (.func 115) #[] #[.pointer (some ⟨q,0,none⟩)])])∧ah w' q 121 #[.func (.func 116) #[] #[.pointer (some ⟨q2,0,none⟩)]]∧ah w' q2 121 #[.func F0 #[] C0]∧Below w.heap.size w w'
theorem Eo (F0:Fn)(C0:Array Value)(w:World):Calls Tryz.prog 85 #[.func F0 #[] C0] w (Mj F0 C0 w):=by
 have SY:∀(fn:Fn) (first cap:Array Value) (w:World),(Instr.makeFunc fn first cap).run Tryz.prog w=.ok (.func fn first cap) w:=fun _ _ _ _=>rfl
 go_enter Tryz.func85,Tryz.ntmps85;go_wp2_with fail;have h2:=(ah.new w 121 #[.func F0 #[] C0]).alloc (.cells #[.int .i64 0,.int .u8 0,.int .u8 0,.bool false,.bool false,.nilFunc] 76);have hR:=ah.new (w.alloc (.cells #[.func F0 #[] C0] 121)) 76 #[.int .i64 0,.int .u8 0,.int .u8 0,.bool false,.bool false,.nilFunc];rw[World.size_alloc] at hR;have hB:=ae.then (aa w (.cells #[.func F0 #[] C0] 121)) (aa _ (.cells #[.int .i64 0,.int .u8 0,.int .u8 0,.bool false,.bool false,.nilFunc] 76))
 generalize (w.alloc (.cells #[.func F0 #[] C0] 121)).alloc (.cells #[.int .i64 0,.int .u8 0,.int .u8 0,.bool false,.bool false,.nilFunc] 76)=W at*;have eJ:w.heap.size≤w.heap.size+1:=by omega
 have hne:w.heap.size≠w.heap.size+1:=by omega
 generalize w.heap.size+1=g at*;refine(kZ _ _ _).mono ?_;rintro e w1 ⟨q,rfl,hq,b1⟩;replace h2:=h2.later b1;replace hR:=hR.later b1;replace hB:=ae.then hB b1
 clear b1;have LQ:q≠g:=fun e=>by subst e;unfold ah at hq hR;rw[hq] at hR;injection hR with hR;injection hR with _ hR _;revert hR;decide
 have cR:∀i,i < 6→∃u,w1.cell? ⟨g,i,none⟩=some u:=fun i hi=>⟨_,(hR.cell i).trans (Array.getElem?_eq_getElem (by simpa using hi))⟩
 have c0:=hR.cell 0;have c1:=hR.cell 1;have c2:=hR.cell 2;have c3:=hR.cell 3;have c4:=hR.cell 4;have c5:=hR.cell 5;simp only[List.getElem?_toArray,List.getElem?_cons_zero,List.getElem?_cons_succ] at c0 c1 c2 c3 c4 c5;have fR:=hR.frozen;clear cR hR;go_wp2_with fail;refine bodyPost_ret (v:=.agg #[.int .i64 2,.int .u8 2,.int .u8 2,.bool false,.bool false,(.func (.func 115) #[] #[.pointer (some ⟨q,0,none⟩)])]) ?_ rfl ?_
 ·simp[results,Tryz.results85,go_sem,c0,c1,c2,c3,c4,c5]
 ·exact⟨q,w.heap.size,rfl,(((((hq.far (p:=⟨g,0,none⟩) LQ _).far (p:=⟨g,1,none⟩) LQ _).far (p:=⟨g,2,none⟩) LQ _).far (p:=⟨g,3,none⟩) LQ _).far (p:=⟨g,4,none⟩) LQ _).far (p:=⟨g,5,none⟩) LQ _,(((((h2.far (p:=⟨g,0,none⟩) hne _).far (p:=⟨g,1,none⟩) hne _).far (p:=⟨g,2,none⟩) hne _).far (p:=⟨g,3,none⟩) hne _).far (p:=⟨g,4,none⟩) hne _).far (p:=⟨g,5,none⟩) hne _,(((((hB.setCell eJ _).setCell eJ _).setCell eJ _).setCell eJ _).setCell eJ _).setCell eJ _⟩
end Go.Proofs.YtfmbcoeallmnnaaGreatDoor
