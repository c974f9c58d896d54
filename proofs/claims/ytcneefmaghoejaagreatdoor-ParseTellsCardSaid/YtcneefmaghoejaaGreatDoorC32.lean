/- Parts of the proof. -/
import Derived.Test.YtcneefmaghoejaaGreatDoorC31
namespace Go.Proofs.YtcneefmaghoejaaGreatDoor
open Go.Lib (hid)
open Go.ChangeShapes Go.WideShapes Go.ChangeAt Go.RowKit
set_option linter.unusedVariables false
set_option linter.unusedSimpArgs false
def eV:Array Value:=(cx {}).toArray
structure jM (ρ:br) (w:World) (big:Bool) (P:Ps St) (σ:aW) (k:Ps St) (q b:Nat) (wr:World) (bU:aW) (m:qY) (d:St):Prop where
 did:dV ρ w wr bU (big || d.long)
 blk:au wr b 35 (cx m).toArray
 res:au wr q 35 eV
 at_:d.at_ wr (eD (b+1) wr) m
 todo:uA P σ k bU
 qb:w.heap.size≤q∧q < b
section
variable {ρ:br} {w wr w2:World} {big:Bool} {P:Ps St} {σ bU:aW} {q b:Nat} {m:qY} {d:St}
theorem jM.later {k:Ps St}(A:jM ρ w big P σ k q b wr bU m d)(hb:Below wr.heap.size wr w2):jM ρ w big P σ k q b w2 bU m d:=
 ⟨A.did.later hb,A.blk.later hb,A.res.later hb,St.at_.keep (cP hb) A.at_,A.todo,A.qb⟩
theorem jM.jh {α:Type} {p:Ps α} {f:α→Ps St} {x:α}(A:jM ρ w big P σ (p >>= f) q b wr bU m d)(hg:ρ.g < w.heap.size)(dd:dV ρ wr w2 (ae p bU) (big || d.long))(hx:aK p bU x):jM ρ w big P σ (f x) q b w2 (ae p bU) m d:=
 ⟨A.did.trans dd,dd.blk A.blk (by have:=A.qb;omega),dd.blk A.res (by have:=A.qb;omega),St.at_.keep (cK dd.grown (by have:=A.qb;omega)) A.at_,A.todo.go hx,A.qb⟩
theorem jM.set {k:Ps St} {m':qY} {d':St}(A:jM ρ w big P σ k q b wr bU m d)(hg:ρ.g < w.heap.size)(i:Nat)(u:Value)(hb:(cx m').toArray=(cx m).toArray.setIfInBounds i u)(hl:d'.long=d.long)(hat:St.at_ wr (eD (b+1) wr) d' m'):jM ρ w big P σ k q b (wr.setCell ⟨b,i,none⟩ u) bU m' d':=by
 have hq:=A.qb;refine⟨?_,?_,A.res.far (p:=⟨b,i,none⟩) (by simp;omega) u,St.at_.keep (iO (by omega) i u) hat,A.todo,hq⟩
 ·rw[hl];exact A.did.far hg (by omega) i u
 ·rw[hb];exact A.blk.cg i u
theorem jM.stay {k:Ps St}(A:jM ρ w big P σ k q b wr bU m d)(hg:ρ.g < w.heap.size)(dd:dV ρ wr w2 bU (big || d.long)):jM ρ w big P σ k q b w2 bU m d:=
 ⟨A.did.trans dd,dd.blk A.blk (by have:=A.qb;omega),dd.blk A.res (by have:=A.qb;omega),St.at_.keep (cK dd.grown (by have:=A.qb;omega)) A.at_,A.todo,A.qb⟩
end
theorem Uh {w:World} {q:Nat} {T:TypeId} {c0 c1 c2 c3 c4 c5 c6 c7 c8 c9 c10 c11 c12 c13 c14 c15 c16 c17 c18 c19 c20 c21 c22 c23 c24 c25 c26 c27:Value}(h:au w q T #[c0,c1,c2,c3,c4,c5,c6,c7,c8,c9,c10,c11,c12,c13,c14,c15,c16,c17,c18,c19,c20,c21,c22,c23,c24,c25,c26,c27]):w.cell? ⟨q,0,none⟩=some c0∧w.cell? ⟨q,1,none⟩=some c1∧w.cell? ⟨q,2,none⟩=some c2∧w.cell? ⟨q,3,none⟩=some c3∧w.cell? ⟨q,4,none⟩=some c4∧w.cell? ⟨q,5,none⟩=some c5∧w.cell? ⟨q,6,none⟩=some c6∧w.cell? ⟨q,7,none⟩=some c7∧w.cell? ⟨q,8,none⟩=some c8∧w.cell? ⟨q,9,none⟩=some c9∧w.cell? ⟨q,10,none⟩=some c10∧w.cell? ⟨q,11,none⟩=some c11∧w.cell? ⟨q,12,none⟩=some c12∧w.cell? ⟨q,13,none⟩=some c13∧w.cell? ⟨q,14,none⟩=some c14∧w.cell? ⟨q,15,none⟩=some c15∧w.cell? ⟨q,16,none⟩=some c16∧w.cell? ⟨q,17,none⟩=some c17∧w.cell? ⟨q,18,none⟩=some c18∧w.cell? ⟨q,19,none⟩=some c19∧w.cell? ⟨q,20,none⟩=some c20∧w.cell? ⟨q,21,none⟩=some c21∧w.cell? ⟨q,22,none⟩=some c22∧w.cell? ⟨q,23,none⟩=some c23∧w.cell? ⟨q,24,none⟩=some c24∧w.cell? ⟨q,25,none⟩=some c25∧w.cell? ⟨q,26,none⟩=some c26∧w.cell? ⟨q,27,none⟩=some c27:=
 ⟨h.cell 0,h.cell 1,h.cell 2,h.cell 3,h.cell 4,h.cell 5,h.cell 6,h.cell 7,h.cell 8,h.cell 9,h.cell 10,h.cell 11,h.cell 12,h.cell 13,h.cell 14,h.cell 15,h.cell 16,h.cell 17,h.cell 18,h.cell 19,h.cell 20,h.cell 21,h.cell 22,h.cell 23,h.cell 24,h.cell 25,h.cell 26,h.cell 27⟩
theorem PQ {w:World} {q:Nat} {T:TypeId} {cs:Array Value}(h:au w q T cs):w.frozen? ⟨q,0,none⟩=false∧w.frozen? ⟨q,1,none⟩=false∧w.frozen? ⟨q,2,none⟩=false∧w.frozen? ⟨q,3,none⟩=false∧w.frozen? ⟨q,4,none⟩=false∧w.frozen? ⟨q,5,none⟩=false∧w.frozen? ⟨q,6,none⟩=false∧w.frozen? ⟨q,7,none⟩=false∧w.frozen? ⟨q,8,none⟩=false∧w.frozen? ⟨q,9,none⟩=false∧w.frozen? ⟨q,10,none⟩=false∧w.frozen? ⟨q,11,none⟩=false∧w.frozen? ⟨q,12,none⟩=false∧w.frozen? ⟨q,13,none⟩=false∧w.frozen? ⟨q,14,none⟩=false∧w.frozen? ⟨q,15,none⟩=false∧w.frozen? ⟨q,16,none⟩=false∧w.frozen? ⟨q,17,none⟩=false∧w.frozen? ⟨q,18,none⟩=false∧w.frozen? ⟨q,19,none⟩=false∧w.frozen? ⟨q,20,none⟩=false∧w.frozen? ⟨q,21,none⟩=false∧w.frozen? ⟨q,22,none⟩=false∧w.frozen? ⟨q,23,none⟩=false∧w.frozen? ⟨q,24,none⟩=false∧w.frozen? ⟨q,25,none⟩=false∧w.frozen? ⟨q,26,none⟩=false∧w.frozen? ⟨q,27,none⟩=false:=
 ⟨h.frozen 0,h.frozen 1,h.frozen 2,h.frozen 3,h.frozen 4,h.frozen 5,h.frozen 6,h.frozen 7,h.frozen 8,h.frozen 9,h.frozen 10,h.frozen 11,h.frozen 12,h.frozen 13,h.frozen 14,h.frozen 15,h.frozen 16,h.frozen 17,h.frozen 18,h.frozen 19,h.frozen 20,h.frozen 21,h.frozen 22,h.frozen 23,h.frozen 24,h.frozen 25,h.frozen 26,h.frozen 27⟩
def Ui (w:World)(b:Nat)(m:tP):World:=(((((((w.setCell ⟨b,7,none⟩ (eP m.items)).setCell ⟨b,8,none⟩ (.string m.bw)).setCell ⟨b,9,none⟩ (.bool m.only)).setCell ⟨b,10,none⟩ (eP m.bK)).setCell ⟨b,11,none⟩ (eP m.group)).setCell ⟨b,12,none⟩ (eP m.having)).setCell ⟨b,13,none⟩ (eP m.order)).setCell ⟨b,14,none⟩ (eP m.cG)
def C5 (cs:Array Value)(m:tP):Array Value:=(((((((cs.setIfInBounds 7 (eP m.items)).setIfInBounds 8 (.string m.bw)).setIfInBounds 9 (.bool m.only)).setIfInBounds 10 (eP m.bK)).setIfInBounds 11 (eP m.group)).setIfInBounds 12 (eP m.having)).setIfInBounds 13 (eP m.order)).setIfInBounds 14 (eP m.cG)
section
variable {ρ:br} {w wr w2:World} {big:Bool} {P:Ps St} {σ bU:aW} {q b:Nat} {m:qY} {d:St}
theorem jM.query {f:Qu→Ps St} {m':qY} {d':St} {qd:Qu} {qy:tP}(A:jM ρ w big P σ (cH >>= f) q b wr bU m d)(hg:ρ.g < w.heap.size)(dd:dV ρ wr w2 (ae cH bU) ((big || d.long)|| qd.long))(iF:aK cH bU qd)(hb:(cx m').toArray=C5 (cx m).toArray qy)(hl:((big || d.long)|| qd.long)=(big || d'.long))
  (hat:St.at_ w2 (eD (b+1) w2) d m→St.at_ w2 (eD (b+1) w2) d' m'):jM ρ w big P σ (f qd) q b (Ui w2 b qy) (ae cH bU) m' d':=by
 have hq:=A.qb;have D:=A.did.trans dd;have hB:=dd.blk A.blk (by omega);have hR:=dd.blk A.res (by omega);have hS:=hat (St.at_.keep (cK dd.grown (by omega)) A.at_);have s:=fun(w:World) (h:St.at_ w (eD (b+1) w) d' m') (i:Nat) (u:Value)=>St.at_.keep (iO (w:=w) (Nat.lt_succ_self b) i u) h
 have t:=fun(w:World) (h:dV ρ _ w (ae cH bU) ((big || d.long)|| qd.long)) (i:Nat) (u:Value)=>h.far (q:=b) hg (by omega) i u
 have r:=fun(w:World) (h:au w q 35 eV) (i:Nat) (u:Value)=>h.far (p:=⟨b,i,none⟩) (by simp;omega) u
 refine⟨?_,?_,?_,?_,A.todo.go iF,hq⟩
 ·rw[← hl];exact t _ (t _ (t _ (t _ (t _ (t _ (t _ (t _ D 7 _) 8 _) 9 _) 10 _) 11 _) 12 _) 13 _) 14 _
 ·rw[hb];exact(((((((hB.cg 7 _).cg 8 _).cg 9 _).cg 10 _).cg 11 _).cg 12 _).cg 13 _).cg 14 _
 ·exact r _ (r _ (r _ (r _ (r _ (r _ (r _ (r _ hR 7 _) 8 _) 9 _) 10 _) 11 _) 12 _) 13 _) 14 _
 ·exact s _ (s _ (s _ (s _ (s _ (s _ (s _ (s _ hS 7 _) 8 _) 9 _) 10 _) 11 _) 12 _) 13 _) 14 _
end
theorem dV.row {ρ:br} {W w:World} {σ:aW} {big:Bool} {q:Nat}(h:dV ρ W w σ big)(hW:ρ.g < W.heap.size)(hq:W.heap.size≤q)(cs:Array Value):dV ρ W (w.setRow q cs) σ big:=
 h.own hW (dH w q cs) (fun G e=>by injection e with e;omega)
def kr (ρ:br)(w:World)(big:Bool)(P:Ps St)(σ:aW)(e:Ending)(w':World):Prop:=∃(d:St) (y:qY),e=.returned (np y)∧d.at_ w' (eD w.heap.size w') y∧dV ρ w w' (ae P σ) (big || d.long)∧aK P σ d
theorem jM.post {ρ:br} {w wr:World} {big:Bool} {P:Ps St} {σ bU:aW} {q b:Nat} {m:qY} {d:St}(A:jM ρ w big P σ (pure d) q b wr bU m d)(hg:ρ.g < w.heap.size):kr ρ w big P σ (.returned (np m)) (wr.setRow q (cx m).toArray):=by
 have hq:=A.qb;have hd:=A.todo.done;refine⟨d,m,rfl,?_,?_,hd.2⟩
 ·exact St.at_.keep (et (by omega)) (St.at_.keep (iP _ (show q < b+1 by omega) _) A.at_)
 ·rw[hd.1];exact A.did.row hg hq.1 _
theorem jM.Je {ρ:br} {w wr:World} {big:Bool} {P k k':Ps St} {σ bU:aW} {q b:Nat} {m:qY} {d:St}(A:jM ρ w big P σ k q b wr bU m d)(h:k=k'):jM ρ w big P σ k' q b wr bU m d:=h▸A
theorem jM.bad {ρ:br} {w wr:World} {big:Bool} {P k:Ps St} {σ bU:aW} {q b n:Nat} {m:qY} {d:St}(A:jM ρ w big P σ k q b wr bU m d)(h:bU=.bad n)(k':Ps St):jM ρ w big P σ k' q b wr bU m d:=by subst h;exact⟨A.did,A.blk,A.res,A.at_,A.todo.I5 k',A.qb⟩
def fe (s:ByteArray)(w:World)(e:Ending)(w':World):Prop:=
 match fO s.data.toList with
 | .error (p,x)=>e=.returned (.tuple #[np {},.int .i64 p,.int .i64 x])∧Below w.heap.size w w'
 | .ok d=>∃y:qY,e=.returned (.tuple #[np y,.int .i64 0,.int .i64 0])∧d.at_ w' (eD w.heap.size w') y∧Below w.heap.size w w'
theorem PR {r:List UInt8} {x:Nat}(h:eR r=.error x):x=2∨x=30:=by
 match r with
 | []=>injection h with h;exact .inr h.symm
 | c::r=>
   simp only[eR] at h;split at h
   ·split at h
    ·cases h
    ·injection h with h;exact .inl h.symm
   split at h
   ·split at h
    ·cases h
    ·injection h with h;exact .inr h.symm
   split at h
   ·split at h
    ·cases h
    ·injection h with h;exact .inr h.symm
   ·split at h
    ·cases h
    ·injection h with h;exact .inr h.symm
theorem DM (n:Nat):∀(f:Nat) (r:List UInt8) (p x:Nat),uF n f r=.error (p,x)→x=2∨x=30
 | 0,r,p,x,h=>by injection h with h;injection h with h1 h2;exact .inr h2.symm
 | f+1,r,p,x,h=>by
   simp only[uF] at h;split at h
   ·cases h
   ·split at h
    ·rename_i e he;injection h with h;injection h with h1 h2;subst h2;exact PR he
    ·split at h
     ·rename_i y hy;injection h with h;subst h;exact DM n f _ _ _ hy
     ·cases h
theorem DN {s:List UInt8} {p x:Nat}(h:mh s=.error (p,x)):x=2∨x=30:=by
 unfold mh at h;split at h
 ·injection h with h;injection h with h1 h2;exact .inl h2.symm
 ·exact DM _ _ _ _ _ h
theorem qc {P:Program} {o:Oper} {a:Act} {C:World→Prop} {next:Act→Prop}(ty:TypeId)(x y:Operand)(ho:o.op=.store ty x y)(g:Nat)(cells:Array Value)(hx:a.eval x=.pointer (some ⟨g,0,none⟩))(hy:a.eval y=.agg cells)
  (t:TypeId) (hg:∀w,C w→w.heap[g]?=some (.cells cells t (0,0))) (hi:(P.info? ty).map (·.size)=some cells.size) (h1:cells.all (·.oneCell')=true) (h:next (a.put o.dst undef)):o.quiet P a C next:=by
 refine⟨undef,fun w hC=>?_,h⟩;unfold Oper.quietAt execOp;simp only[ho,hx,hy,Instr.storeAt,Instr.sureAddr,Sem.run_bind,Sem.run_pure,Result.andThen_ok,run_storeVar_row w g t ty cells cells (hg w hC) hi rfl h1,ln (hg w hC)];exact⟨rfl,rfl⟩
theorem BD {P:Program} {o:Oper} {a:Act} {C:World→Prop} {next:Act→Prop}(t:TypeId)(parts:Array (Nat×Operand))(ho:o.op=.build t parts) {cs:Array Value}
  (hv:P.built t (parts.map fun(i,x)=>(i,a.eval x)).toList=some cs) (h:next (a.put o.dst (.agg cs))):o.quiet P a C next:=by
 refine⟨.agg cs,fun w hC=>?_,h⟩;unfold Oper.quietAt execOp;simp only[ho,Sem.run_bind,run_build w t _ cs hv,Result.andThen_ok];exact⟨rfl,rfl⟩
theorem rb {P:Program} {o:Oper} {a:Act} {C:World→Prop} {next:Act→Prop}(t:TypeId)(ho:o.op=.build t #[]) {cs:Array Value}(hv:P.built t []=some cs)(h:next (a.put o.dst (.agg cs))):o.quiet P a C next:=
 BD t #[] ho (by simpa using hv) h
theorem tZ:Tryz.prog.built 35 []=some eV:=by kernel_rfl
theorem br.start {w:World} {gl c:Nat} {l:List Tok}(sf:gl < w.heap.size)(hc:∀k t,l[k]?=some t→w.cell? ⟨gl,k*4,none⟩=some (.int .u8 t.w.k)∧w.cell? ⟨gl,k*4+1,none⟩=some (.string ⟨t.w.s.toArray⟩)∧w.cell? ⟨gl,k*4+2,none⟩=some (.int .i64 t.w.n)∧w.cell? ⟨gl,k*4+3,none⟩=some (.int .i64 t.p))
  (he:ik (l.map (·.w))) (hlen:l.length≤4097) (hwd:∀t∈l,PH t.w):
  (⟨w.heap.size,gl,c,l⟩:br).at (w.alloc (.cells #[.slice (some ⟨gl,0,none⟩) l.length c,.int .i64 0,.int .i64 (-1),.bool false] 65)) (.good (l.map (·.w))) false:=by
 have hb:=au.new w 65 #[.slice (some ⟨gl,0,none⟩) l.length c,.int .i64 0,.int .i64 (-1),.bool false];refine⟨?_,sf,?_,⟨List.suffix_refl _,he⟩,?_,fun t ht=>(hwd t ht).1⟩
 ·have e:(⟨w.heap.size,gl,c,l⟩:br).cells (.good (l.map (·.w))) false= #[.slice (some ⟨gl,0,none⟩) l.length c,.int .i64 0,.int .i64 (-1),.bool false]:=by simp[br.cells,br.n,br.bad,aW.left]
  rw[e];exact hb
 ·intro k t hk;have c:=fun o=>World.cell?_alloc_lt w (.cells #[.slice (some ⟨gl,0,none⟩) l.length c,.int .i64 0,.int .i64 (-1),.bool false] 65) ⟨gl,o,none⟩ sf
  obtain⟨h1,h2,h3,h4⟩:=hc k t hk;exact⟨(c _).trans h1,(c _).trans h2,(c _).trans h3,(c _).trans h4⟩
 ·show l.length≤5000;omega
theorem sI {B:Nat}(w:World)(o:Obj)(cs:Array Value):∀b,eD B w b→(∀i,((w.alloc o).setRow w.heap.size cs).cell? ⟨b,i,none⟩=w.cell? ⟨b,i,none⟩)∧eD B ((w.alloc o).setRow w.heap.size cs) b:=fun b hb=>
 ⟨cell_of_heap ((setRow_other _ w.heap.size b cs (by have:=hb.2;omega)).trans (Below.heap_alloc w o b hb.2)),hb.1,by rw[size_setRow];have:=hb.2;simp;omega⟩
structure nI (w:World) (b:Nat) (cs:Array Value) (x y:Value):Prop where
 st:au w b 35 cs
 at_:au w (b+1) 3 #[x]
 er:au w (b+2) 36 #[y]
theorem nI.later {w w':World} {b:Nat} {cs:Array Value} {x y:Value}(h:nI w b cs x y)(hb:Below w.heap.size w w'):nI w' b cs x y:=⟨h.st.later hb,h.at_.later hb,h.er.later hb⟩
theorem nI.grown {w w':World} {b g:Nat} {cs:Array Value} {x y:Value}(h:nI w b cs x y)(hb:w.grownBy w' (some g))(hg:b+2 < g):nI w' b cs x y:=
 ⟨h.st.grown hb (fun e=>by injection e with e;omega),h.at_.grown hb (fun e=>by injection e with e;omega),h.er.grown hb (fun e=>by injection e with e;omega)⟩
theorem nI.lt {w:World} {b:Nat} {cs:Array Value} {x y:Value}(h:nI w b cs x y):b+2 < w.heap.size:=h.er.lt
theorem qT (w:World)(b:Nat)(cs:Array Value)(x y:Value)(h:nI w b cs x y)(hs:cs.size=28)(tmps:Array Value)(h2:tmps.getD 2 undef=.pointer (some ⟨b,0,none⟩))(h3:tmps.getD 3 undef=.pointer (some ⟨b+1,0,none⟩))(h4:tmps.getD 4 undef=.pointer (some ⟨b+2,0,none⟩)):
  (results Tryz.f10 tmps).run Tryz.prog w=.ok (.tuple #[.agg cs,x,y]) w:=by
 have jH:tmps[2]?.getD undef=.pointer (some ⟨b,0,none⟩):=by simpa using h2
 have h3':tmps[3]?.getD undef=.pointer (some ⟨b+1,0,none⟩):=by simpa using h3
 have h4':tmps[4]?.getD undef=.pointer (some ⟨b+2,0,none⟩):=by simpa using h4
 have e1:=h.at_.cell 0;have e2:=h.er.cell 0;simp only[List.getElem?_toArray,List.getElem?_cons_zero] at e1 e2;have l0:=run_loadVar_row (P:=Tryz.prog) w b 35 35 cs (0,0) _ h.st Tryz.underlying35 rfl (by rw[hs];exact cD);have l1:(loadVar 3 ⟨b+1,0,none⟩).run Tryz.prog w=.ok x w:=by simp[go_sem,e1]
 have l2:(loadVar 36 ⟨b+2,0,none⟩).run Tryz.prog w=.ok y w:=by simp[go_sem,e2]
 simp[results,Tryz.results10,jH,h3',h4',asAddr,Sem.run_bind,l0,l1,l2,Result.andThen]
def Uj (b:Nat):Deferred:= { target:=.fn (.func 16) (qP b (b+1) (b+2)),args:= #[] }
theorem BF {R:Ending→World→Prop} {w:World} {N b:Nat} {cs0:Array Value} {x y:Value}(h:nI w b cs0 x y)(hs:cs0.size=28)(hN:N≤b)(p:Int) {tmps:Array Value}(h2:tmps.getD 2 undef=.pointer (some ⟨b,0,none⟩))(h3:tmps.getD 3 undef=.pointer (some ⟨b+1,0,none⟩))(h4:tmps.getD 4 undef=.pointer (some ⟨b+2,0,none⟩))
  (hR:∀w',Below N w w'→R (.returned (.tuple #[.agg dA,.int .i64 p,.int .i64 31])) w'):
  bodyPostD Tryz.prog Tryz.f10 R (.panic [{ v:=Pq p,recovered:=false }]) { tmps:=tmps,defers:=[Uj b] } w:=by
 refine leaves_cons (f:=16) (args:=qP b (b+1) (b+2)) (by simp) (by unfold qP;simp[go_sem]) ?_;refine(Fz p N b (b+1) (b+2) hN (by omega) (by omega) (by omega) (by omega) (by omega) w cs0 hs h.st x y h.at_ h.er []).mono ?_;rintro e u' w' ⟨rfl,rfl,B0,B1,B2,hb⟩;show Leaves _ _ _ _ [] .returning w';exact⟨_,qT w' b dA _ _ ⟨B0,B1,B2⟩ rfl tmps h2 h3 h4,hR w' hb⟩
theorem xK {R:Ending→World→Prop} {w:World} {b:Nat} {cs:Array Value} {x y:Value}(h:nI w b cs x y)(hs:cs.size=28) {tmps:Array Value}(h2:tmps.getD 2 undef=.pointer (some ⟨b,0,none⟩))(h3:tmps.getD 3 undef=.pointer (some ⟨b+1,0,none⟩))(h4:tmps.getD 4 undef=.pointer (some ⟨b+2,0,none⟩))
  (hR:∀w',Below w.heap.size w w'→R (.returned (.tuple #[.agg cs,x,y])) w'):
  bodyPostD Tryz.prog Tryz.f10 R .ret { tmps:=tmps,defers:=[Uj b] } w:=by
 refine leaves_cons (f:=16) (args:=qP b (b+1) (b+2)) (by simp) (by unfold qP;simp[go_sem]) ?_;refine(IC b (b+1) (b+2) w).mono ?_;rintro e u' w' ⟨rfl,rfl,hb⟩;show Leaves _ _ _ _ [] .returning w';exact⟨_,qT w' b cs _ _ (h.later hb) hs tmps h2 h3 h4,hR w' hb⟩
theorem Lt {R:Ending→World→Prop} {w:World} {b:Nat} {cs:Array Value} {x y:Value}(h:nI w b cs x y)(hs:cs.size=28) {tmps:Array Value}(h2:tmps.getD 2 undef=.pointer (some ⟨b,0,none⟩))(h3:tmps.getD 3 undef=.pointer (some ⟨b+1,0,none⟩))(h4:tmps.getD 4 undef=.pointer (some ⟨b+2,0,none⟩))
  (hR:R (.returned (.tuple #[.agg cs,x,y])) w):
  bodyPostD Tryz.prog Tryz.f10 R .ret { tmps:=tmps,defers:=[] } w:=
 ⟨_,qT w b cs _ _ h hs tmps h2 h3 h4,hR⟩
theorem br.Q4 {w:World} {gl c B:Nat} {l:List Tok}(sf:gl < w.heap.size)(hc:∀k t,l[k]?=some t→w.cell? ⟨gl,k*4,none⟩=some (.int .u8 t.w.k)∧w.cell? ⟨gl,k*4+1,none⟩=some (.string ⟨t.w.s.toArray⟩)∧w.cell? ⟨gl,k*4+2,none⟩=some (.int .i64 t.w.n)∧w.cell? ⟨gl,k*4+3,none⟩=some (.int .i64 t.p))
  (he:ik (l.map (·.w))) (hlen:l.length≤4097) (hwd:∀t∈l,PH t.w) (hE:Env B w):
  (⟨w.heap.size,gl,c,l⟩:br).ij (w.alloc (.cells #[.slice (some ⟨gl,0,none⟩) l.length c,.int .i64 0,.bool false,.bool false] 60)) (l.map (·.w)) false false:=by
 have hb:=au.new w 60 #[.slice (some ⟨gl,0,none⟩) l.length c,.int .i64 0,.bool false,.bool false];refine⟨?_,sf,?_,⟨List.suffix_refl _,he⟩,?_,fun t ht=>(hwd t ht).1,B,hE.size,hE.later (aa w _)⟩
 ·have e:(⟨w.heap.size,gl,c,l⟩:br).uS (l.map (·.w)) false false= #[.slice (some ⟨gl,0,none⟩) l.length c,.int .i64 0,.bool false,.bool false]:=by simp[br.uS,br.n]
  rw[e];exact hb
 ·intro k t hk;have c:=fun o=>World.cell?_alloc_lt w (.cells #[.slice (some ⟨gl,0,none⟩) l.length c,.int .i64 0,.bool false,.bool false] 60) ⟨gl,o,none⟩ sf
  obtain⟨h1,h2,h3,h4⟩:=hc k t hk;exact⟨(c _).trans h1,(c _).trans h2,(c _).trans h3,(c _).trans h4⟩
 ·show l.length≤5000;omega
theorem br.ij.Q5 {ρ:br} {w:World} {l:bH} {lg dp:Bool} {b:Nat}(h:ρ.ij w l lg dp)(cs:Array Value)(h1:ρ.g≠b)(h2:ρ.gl≠b)(hE:∃B,B≤ρ.g∧Env B (w.setRow b cs)):ρ.ij (w.setRow b cs) l lg dp:=
 ⟨h.blk.ia h1 cs,h.lt,fun k t hk=>by
   have c:=cell_of_heap (setRow_other w b ρ.gl cs h2)
   obtain⟨h1,h2,h3,h4⟩:=h.cell k t hk
   exact⟨(c _).trans h1,(c _).trans h2,(c _).trans h3,(c _).trans h4⟩,h.of,h.small,h.yL,hE⟩
theorem XW {s:ByteArray} {l:List Tok}(h:mh s.data.toList=.ok l) {w:World}(hE:jO w)(hs:s.size≤4294967280):
  Calls Tryz.prog 13 #[.string s] w fun e w'=>∃A c,e=.returned (.tuple #[.slice A l.length c,.int .i64 0,.int .i64 0])∧Ak w' w.heap.size (.slice A l.length c) l∧Below w.heap.size w w':=by
 refine(Mr s w hE hs).mono ?_;intro e w' hp;unfold kP at hp;rw[h] at hp;obtain⟨v,rfl,ho,hb⟩:=hp;obtain⟨A,c,rfl⟩:=ho.form;exact⟨A,c,rfl,ho,hb⟩
theorem Uk {s:ByteArray} {p x:Nat}(h:mh s.data.toList=.error (p,x)) {w:World}(hE:jO w)(hs:s.size≤4294967280):
  Calls Tryz.prog 13 #[.string s] w fun e w'=>e=.returned (.tuple #[.slice none 0 0,.int .i64 p,.int .i64 x])∧Below w.heap.size w w':=by
 refine(Mr s w hE hs).mono ?_;intro e w' hp;unfold kP at hp;rw[h] at hp;exact hp
set_option maxHeartbeats 2000000
set_option maxRecDepth 100000
theorem Ul (s:ByteArray)(w:World)(hE:jO w)(hs:s.size≤4294967280) {p x:Nat}(h:mh s.data.toList=.error (p,x)):Calls Tryz.prog 10 #[.string s] w (fe s w):=by
 have hx:=DN h;have hx0:((x:Int) != 0)=true:=by rcases hx with rfl | rfl <;> rfl
 clear hx;have HP:=hid (DD h);have VH:∀(fn:Fn) (first cap:Array Value) (w:World),(Instr.makeFunc fn first cap).run Tryz.prog w=.ok (.func fn first cap) w:=fun _ _ _ _=>rfl
 go_enter_defers Tryz.func10,Tryz.ntmps10;go_upto_region 1 with fail
 change Code.wp _ _ _ _ (((w.alloc (iL {})).alloc (.cells #[.int .i64 0] 3)).alloc (.cells #[.int .i64 0] 36));have hb3:Below w.heap.size w (((w.alloc (iL {})).alloc (.cells #[.int .i64 0] 3)).alloc (.cells #[.int .i64 0] 36)):=ah.then (ah.then (aa w _) (aa _ _)) (aa _ _)
 have hC:nI (((w.alloc (iL {})).alloc (.cells #[.int .i64 0] 3)).alloc (.cells #[.int .i64 0] 36)) w.heap.size dA (.int .i64 0) (.int .i64 0):=by
  refine⟨((au.new w _ _).alloc _).alloc _,?_,?_⟩
  ·have:=(au.new (w.alloc (iL {})) 3 #[.int .i64 0]).alloc (.cells #[.int .i64 0] 36);rwa [World.size_alloc] at this
  ·have:=au.new ((w.alloc (iL {})).alloc (.cells #[.int .i64 0] 3)) 36 #[.int .i64 0];rwa [World.size_alloc,World.size_alloc] at this
 generalize hW:World.alloc _ _=W0 at*;clear hW;have HL:=Uk h (hE.later hb3) hs;have Um:=hid hb3;have Y4:=hid hC;clear hb3 hC h;go_wp2_with fail;refine HL.mono ?_;rintro e w1 ⟨rfl,b1⟩;have Lu:=Y4.out.later b1;have ry:=hid (ah.then Um.out b1);have e1:=Lu.at_.cell 0;have e2:=Lu.er.cell 0;simp only[List.getElem?_toArray,List.getElem?_cons_zero] at e1 e2;have f1:=Lu.at_.frozen 0;have f2:=Lu.er.frozen 0;have hlt:=Lu.lt;have BX:=hid Lu;clear Lu b1 HL Y4 Um;generalize hq:w.heap.size=q at*;go_upto_region 3 with fail
 have Y5:nI ((w1.setCell ⟨q+1,0,none⟩ (.int .i64 p)).setCell ⟨q+2,0,none⟩ (.int .i64 x)) q dA (.int .i64 p) (.int .i64 x):=
  ⟨(BX.out.st.far (p:=⟨q+1,0,none⟩) (by simp) _).far (p:=⟨q+2,0,none⟩) (by simp) _,(BX.out.at_.cg 0 _).far (p:=⟨q+2,0,none⟩) (by simp) _,(BX.out.er.far (p:=⟨q+1,0,none⟩) (by simp) _).cg 0 _⟩
 have g1:w1.grownBy (w1.setCell ⟨q+1,0,none⟩ (.int .i64 p)) (some (q+1)):=cd (aH (Below.refl _ _)) 0 _;have g2:(w1.setCell ⟨q+1,0,none⟩ (.int .i64 p)).grownBy ((w1.setCell ⟨q+1,0,none⟩ (.int .i64 p)).setCell ⟨q+2,0,none⟩ (.int .i64 x)) (some (q+2)):=cd (aH (Below.refl _ _)) 0 _;have VG:Below q w ((w1.setCell ⟨q+1,0,none⟩ (.int .i64 p)).setCell ⟨q+2,0,none⟩ (.int .i64 x)):=(ry.out.trans (bD g1 (by omega) (by omega))).trans (bD g2 (by have:=g1.size;omega) (by omega));clear g1 g2 e1 e2 f1 f2;change Code.wp _ _ _ _ ((w1.setCell ⟨q+1,0,none⟩ (.int .i64 p)).setCell ⟨q+2,0,none⟩ (.int .i64 x));generalize (w1.setCell _ _).setCell _ _=W at*;obtain⟨z0,hz0⟩:∃z,z=dA:=⟨_,rfl⟩;have HZ:=hid (show Tryz.prog.built 35 []=some z0 by rw[hz0];exact Bk);have Y0:=hid (show z0.all (·.oneCell')=true by rw[hz0];exact dI {});have Ga:=hid (show z0.size=28 by rw[hz0];rfl);have Gb:=hid hz0;rw[← hz0] at Y5;clear hz0;refine jw [] [_,_,_,_,_,_] rfl (fun i=>if i=0 then .agg z0 else if i=1 then .int .i64 p else .int .i64 x) [3,4,5] (fun vs w'=>nI w' q z0 (.int .i64 p) (.int .i64 x)∧Below q w w') (fun vs w' ⟨a,b⟩=>⟨⟨a.st.drew,a.at_.drew,a.er.drew⟩,b.drew⟩) ⟨Y5,VG⟩ (by kernel_rfl) (by kernel_rfl) (by kernel_rfl) (by kernel_rfl) (by decide) rfl ?_ ?_
 ·refine⟨?_,?_,?_,?_,?_,?_,trivial⟩
  ·intro ρ w' vs hcs hG hr;refine⟨rfl,?_⟩;unfold execOp;simp only[Sem.run_bind,Array.map_empty,run_build w' 35 #[] z0 HZ.out,Result.andThen_ok];rfl
  ·intro ρ w' vs hcs hG hr;have r0:ρ (.tmp 3)=.pointer (some ⟨q+1,0,none⟩):=hr.1;have hc:=hG.1.at_.cell 0;simp only[List.getElem?_toArray,List.getElem?_cons_zero] at hc;refine⟨rfl,?_⟩;show(execOp ρ _).run Tryz.prog w'=.ok (.value (.int .i64 p)) w';simp[execOp,r0,go_sem,hc]
  ·intro ρ w' vs hcs hG hr;have r0:ρ (.tmp 4)=.pointer (some ⟨q+2,0,none⟩):=hr.1;have hc:=hG.1.er.cell 0;simp only[List.getElem?_toArray,List.getElem?_cons_zero] at hc;refine⟨rfl,?_⟩;show(execOp ρ _).run Tryz.prog w'=.ok (.value (.int .i64 x)) w';simp[execOp,r0,go_sem,hc]
  ·intro ρ w' vs hcs hG hr;have r0:ρ (.tmp 2)=.pointer (some ⟨q,0,none⟩):=hr.1;have r1:ρ (.tmp 15)=.agg z0:=hr.2.1;refine⟨rfl,?_⟩;show vs.length=0→_;intro hl;obtain⟨a,b⟩:=hG;refine vB (w':=w'.setRow q z0) ?_ ?_
   ·unfold execOp;simp only[r0,r1,Instr.storeAt,Instr.sureAddr,Sem.run_bind,Sem.run_pure,Result.andThen_ok,run_storeVar_row w' q 35 35 z0 z0 a.st (by rw[Ga.out];exact cD) rfl Y0.out]
   ·rw[ln a.st];exact⟨a,b⟩
  ·intro ρ w' vs hcs hG hr;have r0:ρ (.tmp 3)=.pointer (some ⟨q+1,0,none⟩):=hr.1;have r1:ρ (.tmp 16)=.int .i64 p:=hr.2.1;refine⟨rfl,?_⟩;show vs.length=1→_;intro hl;obtain⟨a,b⟩:=hG;have hf:=a.at_.frozen 0;have hc:=a.at_.cell 0;simp only[List.getElem?_toArray,List.getElem?_cons_zero] at hc;have hlt:=a.lt;refine vB (w':=w'.setCell ⟨q+1,0,none⟩ (.int .i64 p)) (by simp[execOp,r0,r1,go_sem,hc,hf]) ?_;exact⟨⟨a.st.far (p:=⟨q+1,0,none⟩) (by simp) _,a.at_.cg 0 _,a.er.far (p:=⟨q+1,0,none⟩) (by simp) _⟩,b.trans (bD (p:=q+1) (cd (aH (Below.refl _ _)) 0 _) (by omega) (by omega))⟩
  ·intro ρ w' vs hcs hG hr;have r0:ρ (.tmp 4)=.pointer (some ⟨q+2,0,none⟩):=hr.1;have r1:ρ (.tmp 17)=.int .i64 x:=hr.2.1;refine⟨rfl,?_⟩;show vs.length=2→_;intro hl;obtain⟨a,b⟩:=hG;have hf:=a.er.frozen 0;have hc:=a.er.cell 0;simp only[List.getElem?_toArray,List.getElem?_cons_zero] at hc;have hlt:=a.lt;refine vB (w':=w'.setCell ⟨q+2,0,none⟩ (.int .i64 x)) (by simp[execOp,r0,r1,go_sem,hc,hf]) ?_;exact⟨⟨a.st.far (p:=⟨q+2,0,none⟩) (by simp) _,a.at_.far (p:=⟨q+2,0,none⟩) (by simp) _,a.er.cg 0 _⟩,b.trans (bD (p:=q+2) (cd (aH (Below.refl _ _)) 0 _) (by omega) (by omega))⟩
 ·intro vs w' hl hG;intro a0 Xx a1 z1 a2 z2;have Xx:a0=.agg z0:=Xx;have z1:a1=.int .i64 p:=z1;have z2:a2=.int .i64 x:=z2;subst Xx z1 z2;change wpList _ _ _ _ _ _;clear Xx z1 z2;go_wp2_with fail;refine Lt hG.1 Ga.out rfl rfl rfl ?_;unfold fe;rw[HP.out,Gb.out];exact⟨rfl,hq▸hG.2⟩
theorem Un (s:ByteArray)(w:World)(hE:jO w)(hs:s.size≤4294967280) {l:List Tok}(hl:mh s.data.toList=.ok l):Calls Tryz.prog 10 #[.string s] w (fe s w):=by
 obtain⟨t0,r0,hl0⟩:=tX hl;obtain⟨_,hlen,hwd⟩:=qR hl;have hne:l≠ []:=by rw[hl0];simp
 have Q6:=hid (pY hl);have Q7:=hid hwd;have HLL:=hid hl;have HE0:=hid (Env.mk0 hE);clear hl0 hwd;have VH:∀(fn:Fn) (first cap:Array Value) (w:World),(Instr.makeFunc fn first cap).run Tryz.prog w=.ok (.func fn first cap) w:=fun _ _ _ _=>rfl
 go_enter_defers Tryz.func10,Tryz.ntmps10;go_upto_region 1 with fail
 change Code.wp _ _ _ _ (((w.alloc (iL {})).alloc (.cells #[.int .i64 0] 3)).alloc (.cells #[.int .i64 0] 36));have hb3:Below w.heap.size w (((w.alloc (iL {})).alloc (.cells #[.int .i64 0] 3)).alloc (.cells #[.int .i64 0] 36)):=ah.then (ah.then (aa w _) (aa _ _)) (aa _ _)
 have hC:nI (((w.alloc (iL {})).alloc (.cells #[.int .i64 0] 3)).alloc (.cells #[.int .i64 0] 36)) w.heap.size dA (.int .i64 0) (.int .i64 0):=by
  refine⟨((au.new w _ _).alloc _).alloc _,?_,?_⟩
  ·have:=(au.new (w.alloc (iL {})) 3 #[.int .i64 0]).alloc (.cells #[.int .i64 0] 36);rwa [World.size_alloc] at this
  ·have:=au.new ((w.alloc (iL {})).alloc (.cells #[.int .i64 0] 3)) 36 #[.int .i64 0];rwa [World.size_alloc,World.size_alloc] at this
 generalize hW:World.alloc _ _=W0 at*;clear hW;have HL:=XW hl (hE.later hb3) hs;have Um:=hid hb3;have Y4:=hid hC;clear hb3 hC hl hE;go_wp2_with fail;refine HL.mono ?_;clear HL;rintro e w1 ⟨A,c,rfl,ht,b1⟩;obtain⟨gl,rfl,hgb,sf,hc⟩:=ht.cells hne;have Lu:=Y4.out.later b1;have ry:=hid (ah.then Um.out b1);have e1:=Lu.at_.cell 0;have e2:=Lu.er.cell 0;simp only[List.getElem?_toArray,List.getElem?_cons_zero] at e1 e2;have f1:=Lu.at_.frozen 0;have f2:=Lu.er.frozen 0;have hlt:=Lu.lt;have alH:w.heap.size+2 < gl:=by have:=Y4.out.lt;omega
 have BX:=hid Lu;have F3:=hid hc;clear Lu b1 Y4 Um ht hc hgb;generalize hq:w.heap.size=q at*;have hx0:((0:Int) != 0)=false:=rfl;go_upto_region 4 with fail
 have Y5:nI ((w1.setCell ⟨q+1,0,none⟩ (.int .i64 0)).setCell ⟨q+2,0,none⟩ (.int .i64 0)) q dA (.int .i64 0) (.int .i64 0):=
  ⟨(BX.out.st.far (p:=⟨q+1,0,none⟩) (by simp) _).far (p:=⟨q+2,0,none⟩) (by simp) _,(BX.out.at_.cg 0 _).far (p:=⟨q+2,0,none⟩) (by simp) _,(BX.out.er.far (p:=⟨q+1,0,none⟩) (by simp) _).cg 0 _⟩
 have g1:w1.grownBy (w1.setCell ⟨q+1,0,none⟩ (.int .i64 0)) (some (q+1)):=cd (aH (Below.refl _ _)) 0 _;have g2:(w1.setCell ⟨q+1,0,none⟩ (.int .i64 0)).grownBy ((w1.setCell ⟨q+1,0,none⟩ (.int .i64 0)).setCell ⟨q+2,0,none⟩ (.int .i64 0)) (some (q+2)):=cd (aH (Below.refl _ _)) 0 _;have VG:Below q w ((w1.setCell ⟨q+1,0,none⟩ (.int .i64 0)).setCell ⟨q+2,0,none⟩ (.int .i64 0)):=(ry.out.trans (bD g1 (by omega) (by omega))).trans (bD g2 (by have:=g1.size;omega) (by omega));have acp:∀k t,l[k]?=some t→((w1.setCell ⟨q+1,0,none⟩ (.int .i64 0)).setCell ⟨q+2,0,none⟩ (.int .i64 0)).cell? ⟨gl,k*4,none⟩=some (.int .u8 t.w.k)∧((w1.setCell ⟨q+1,0,none⟩ (.int .i64 0)).setCell ⟨q+2,0,none⟩ (.int .i64 0)).cell? ⟨gl,k*4+1,none⟩=some (.string ⟨t.w.s.toArray⟩)∧((w1.setCell ⟨q+1,0,none⟩ (.int .i64 0)).setCell ⟨q+2,0,none⟩ (.int .i64 0)).cell? ⟨gl,k*4+2,none⟩=some (.int .i64 t.w.n)∧((w1.setCell ⟨q+1,0,none⟩ (.int .i64 0)).setCell ⟨q+2,0,none⟩ (.int .i64 0)).cell? ⟨gl,k*4+3,none⟩=some (.int .i64 t.p):=by
  intro k t hk;have c:=fun o=>(cell_of_heap ((g2.block gl (by have:=g1.size;omega) (fun e=>by injection e with e;omega)).trans (g1.block gl sf (fun e=>by injection e with e;omega))) o:_)
  obtain⟨h1,h2,h3,h4⟩:=F3.out k t hk;exact⟨(c _).trans h1,(c _).trans h2,(c _).trans h3,(c _).trans h4⟩
 have agT:gl <((w1.setCell ⟨q+1,0,none⟩ (.int .i64 0)).setCell ⟨q+2,0,none⟩ (.int .i64 0)).heap.size:=by have h1:=g1.size;have h2:=g2.size;omega
 clear g1 g2 e1 e2 f1 f2 F3 sf BX ry hlt;change Code.wp _ _ _ _ ((w1.setCell ⟨q+1,0,none⟩ (.int .i64 0)).setCell ⟨q+2,0,none⟩ (.int .i64 0));generalize (w1.setCell _ _).setCell _ _=W at*;have hR:=br.Q4 (c:=c) agT acp Q6.out hlen Q7.out (HE0.out.below VG);have hb4:=aa W (.cells #[.slice (some ⟨gl,0,none⟩) l.length c,.int .i64 0,.bool false,.bool false] 60);have HR:=hid hR;have HC3:=hid (Y5.later hb4);have OP:=Y5.lt;have Q8:=hid (VG.trans (hb4.mono (show q≤W.heap.size by omega)));clear acp hR Y5 VG hb4;go_upto_region 6 with fail
 change Code.wp _ _ _ _ (W.alloc (.cells #[.slice (some ⟨gl,0,none⟩) l.length c,.int .i64 0,.bool false,.bool false] 60));generalize hρ:(⟨W.heap.size,gl,c,l⟩:br)=ρ at*;have agV:ρ.g=W.heap.size:=by rw[← hρ]
 have alI:ρ.gl=gl:=by rw[← hρ]
 have vV:ρ.ptr=.pointer (some ⟨W.heap.size,0,none⟩):=by rw[← hρ];rfl
 have Dk:=hid (show∀n,ρ.placeOf n=((l[l.length - n]?).map (·.p)).getD 0 from fun n=>by rw[← hρ];rfl);rw[← vV];clear hρ hx0;generalize hWA:(W.alloc _)=W3 at*;have hs3:W3.heap.size=W.heap.size+1:=by rw[← hWA];simp
 clear hWA;generalize W.heap.size=g at*;have HPT:=hid vV;clear vV;have HS:=hid (Bq ρ W3 _ false false HR.out);go_wp2_with fail;refine HS.out.mono ?_;clear HS;intro e w4 hp;rcases GP.cases hp with ⟨d,r,v,aO,rfl,m,rfl,hat,dd⟩|⟨n,ar,rfl,hgr⟩
 ·clear hp;simp only[Bool.false_or] at dd;have XU:=HC3.out.grown dd.grown (by omega);have hb4:=Q8.out.trans (bD dd.grown (by omega) (by omega));obtain⟨cs,hcs⟩:∃cs,cs=(cx m).toArray:=⟨_,rfl⟩;have Dm:=hid (show cs.size=28 by rw[hcs];rfl);have AJ:=hid (show cs.all (·.oneCell')=true by rw[hcs];exact dI _);have HCS:=hid hcs;have hcr:nI (w4.setRow q cs) q cs (.int .i64 0) (.int .i64 0):=⟨XU.st.row cs,XU.at_.ia (by omega) cs,XU.er.ia (by omega) cs⟩;have hbr:=hb4.trans (bD (dH w4 q cs) (by have:=XU.lt;omega) (Nat.le_refl _));have E9:=dd.at_.Q5 (b:=q) cs (by omega) (by omega) ⟨q,by omega,HE0.out.below hbr⟩;have YU:=St.at_.keep (iP w4 (show q < W3.heap.size by omega) cs) hat;have HC4:=hid XU;unfold np;rw[← hcs];clear hcs hat dd XU hb4 HC3 Q8 HR;go_upto_region 7 with (first
   |(refine wpList_store_row rfl 35 (.tmp 2) (.tmp 23) rfl q cs rfl rfl 35 dA HC4.out.st (by rw[Dm.out];exact cD) (by rw[Dm.out];rfl) AJ.out ?_))
  clear HC4;generalize w4.setRow q cs=W5 at*;have HV:=hid (bX ρ W5 r d.long (dU d.exprs) E9 ⟨#[59]⟩);have HC5:=hid hcr;have XX:=hid hbr;have Cq:=hid YU;clear hcr hbr YU E9;go_wp2_with fail;refine HV.out.mono ?_;clear HV;rintro e w6 ⟨rfl,dd⟩;replace dd:bJ ρ W5 w6 (jv jQ r) d.long (dU d.exprs):=dd;have Cz:=rV jQ r;have hc6:=HC5.out.grown dd.grown (by omega);have I1:=XX.out.trans (bD dd.grown (by have:=HC5.out.lt;omega) (by omega));have ha6:=St.at_.keep (cK dd.grown (show ρ.g < W3.heap.size by omega)) Cq.out;obtain⟨tk,r6,pl,pQ,hl6,xT⟩:=dd.at_.iB;clear xT;have fR:=iX ρ w6 _ _ _ dd.at_;have Ap:=kj ρ w6 _ _ _ dd.at_;rw[← pQ] at fR;rw[hl6] at Cz Ap dd;have HD:=hid dd;have HN:=hid fR;have YO:=hid Ap;have Y6:=hid hc6;have Y7:=hid I1;have zo:=hid ha6;have oM:=hid aO;have HME:=hid Cz;clear dd fR Ap hc6 I1 ha6 Cz pQ hl6 HC5 XX Cq aO;obtain⟨⟨k9,s9,n9⟩,p9⟩:=tk;simp only at HD YO HME;unfold bT at HN;have VC:=xu (.int .u8 k9) (.string ⟨s9.toArray⟩) (.int .i64 n9) (.int .i64 p9);by_cases hk:k9=0
  ·have acs:nc (l.map (·.w))=.ok (d,⟨k9,s9,n9⟩::r6):=by refine(ak (f:=fun s=>may jQ >>= fun _=>qV >>= fun _=>(pure s:Ps St)) oM.out).trans ?_;refine(ak (f:=fun _=>qV >>= fun _=>(pure d:Ps St)) HME.out).trans ?_;exact(ak (x:=()) (f:=fun _=>(pure d:Ps St)) (by simp only[qV,hk,if_true])).trans rfl
   have Q9:=hid (Bu HLL.out acs);clear acs YO;have Af:((k9:Int) != 0)=false:=by simp[hk]
   clear hk;go_wp2_with fail;refine HN.out.mono ?_;clear HN;rintro e w7 ⟨rfl,b7⟩;have vV:=HPT.out;obtain⟨h70,h71,c2,c3,h72⟩:=(HD.out.at_.later b7).facts;clear h70 h71 h72;rw[agV] at c2 c3;have Q3:=Y6.out.later b7;have hb7:=Y7.out.trans (b7.mono (show q≤w6.heap.size by have:=Y6.out.lt;omega));have ha7:=St.at_.keep (cP b7) zo.out;have alO:=Q3.lt;have JH:=hid Q3;have C0:=hid hb7;have Xq:=hid ha7;clear b7 Q3 hb7 ha7 Y6 Y7 zo HD;obtain⟨z0,hz0⟩:∃z,z=dA:=⟨_,rfl⟩;have HZ:=hid (show Tryz.prog.built 35 []=some z0 by rw[hz0];exact Bk);have Y0:=hid (show z0.all (·.oneCell')=true by rw[hz0];exact dI {});have Ga:=hid (show z0.size=28 by rw[hz0];rfl);have Gb:=hid hz0;clear hz0;cases uT:d.long
   ·cases OY:dU d.exprs
    ·rw[uT] at c2;rw[OY] at c3;go_upto_region 14 with fail
     refine wp_region_lit ?_;refine wpList_load_row rfl 35 (.tmp 2) rfl q rfl 35 cs (0,0) _ JH.out.st Tryz.underlying35 rfl (by rw[Dm.out];exact cD) ?_;simp only[Act.put,List.setIfInBounds_toArray,List.set_cons_succ,List.set_cons_zero];refine wpList_store_row rfl 35 (.tmp 2) (.tmp 45) rfl q cs rfl rfl 35 cs JH.out.st (by rw[Dm.out];exact cD) rfl AJ.out ?_;have yz:=hid (show nI (w7.setRow q cs) q cs (.int .i64 0) (.int .i64 0)from⟨JH.out.st.row cs,JH.out.at_.ia (by omega) cs,JH.out.er.ia (by omega) cs⟩);have HB8:=hid (C0.out.trans (bD (dH w7 q cs) (by omega) (Nat.le_refl _)));have HS8:=hid (show w7.heap.size=(w7.setRow q cs).heap.size by rw[size_setRow]);have BZ:=hid (St.at_.keep (iP w7 (show q < W3.heap.size by omega) cs) Xq.out);generalize w7.setRow q cs=W8 at*;have e1:=yz.out.at_.cell 0;have e2:=yz.out.er.cell 0;simp only[List.getElem?_toArray,List.getElem?_cons_zero] at e1 e2;have f1:=yz.out.at_.frozen 0;have f2:=yz.out.er.frozen 0;simp only[Act.put];go_wp2_with fail;have g1:W8.grownBy (W8.setCell ⟨q+1,0,none⟩ (.int .i64 0)) (some (q+1)):=cd (aH (Below.refl _ _)) 0 _;have g2:(W8.setCell ⟨q+1,0,none⟩ (.int .i64 0)).grownBy ((W8.setCell ⟨q+1,0,none⟩ (.int .i64 0)).setCell ⟨q+2,0,none⟩ (.int .i64 0)) (some (q+2)):=cd (aH (Below.refl _ _)) 0 _;have C6:nI ((W8.setCell ⟨q+1,0,none⟩ (.int .i64 0)).setCell ⟨q+2,0,none⟩ (.int .i64 0)) q cs (.int .i64 0) (.int .i64 0):=
      ⟨(yz.out.st.far (p:=⟨q+1,0,none⟩) (by simp) _).far (p:=⟨q+2,0,none⟩) (by simp) _,(yz.out.at_.cg 0 _).far (p:=⟨q+2,0,none⟩) (by simp) _,(yz.out.er.far (p:=⟨q+1,0,none⟩) (by simp) _).cg 0 _⟩
     have acw:=yz.out.lt;have hb9:=(HB8.out.trans (bD g1 (by omega) (by omega))).trans (bD g2 (by have:=g1.size;omega) (by omega));refine xK C6 Dm.out rfl rfl rfl fun w' hb=>?_
     unfold fe;rw[Q9.out,if_neg (by rw[uT];simp),if_neg (by rw[OY];simp)];have k1:=St.at_.keep (cK g1 (show q+1 < W3.heap.size by omega)) BZ.out;have k2:=St.at_.keep (cK g2 (show q+2 < W3.heap.size by omega)) k1;have k3:=St.at_.keep (cP hb) k2;have k4:=St.at_.keep (et (show w.heap.size≤W3.heap.size by omega)) k3;exact⟨m,by rw[HCS.out];rfl,k4,hq▸hb9.trans (hb.mono (by have:=C6.lt;omega))⟩
    ·rw[uT] at c2;rw[OY] at c3;go_upto_region 13 with fail
     refine wp_region_lit ?_;refine ja rfl 35 #[] rfl (cs:=z0) (by simpa using HZ.out) ?_;simp only[Act.put,List.setIfInBounds_toArray,List.set_cons_succ,List.set_cons_zero];refine wpList_store_row rfl 35 (.tmp 2) (.tmp 44) rfl q z0 rfl rfl 35 cs JH.out.st (by rw[Ga.out];exact cD) (by rw[Dm.out,Ga.out]) Y0.out ?_;have yz:=hid (show nI (w7.setRow q z0) q z0 (.int .i64 0) (.int .i64 0)from⟨JH.out.st.row z0,JH.out.at_.ia (by omega) z0,JH.out.er.ia (by omega) z0⟩);have HB8:=hid (C0.out.trans (bD (dH w7 q z0) (by omega) (Nat.le_refl _)));have HS8:=hid (show w7.heap.size=(w7.setRow q z0).heap.size by rw[size_setRow]);have BZ:=hid (St.at_.keep (iP w7 (show q < W3.heap.size by omega) z0) Xq.out);generalize w7.setRow q z0=W8 at*;have e1:=yz.out.at_.cell 0;have e2:=yz.out.er.cell 0;simp only[List.getElem?_toArray,List.getElem?_cons_zero] at e1 e2;have f1:=yz.out.at_.frozen 0;have f2:=yz.out.er.frozen 0;simp only[Act.put];go_wp2_with fail;have g1:W8.grownBy (W8.setCell ⟨q+1,0,none⟩ (.int .i64 0)) (some (q+1)):=cd (aH (Below.refl _ _)) 0 _;have g2:(W8.setCell ⟨q+1,0,none⟩ (.int .i64 0)).grownBy ((W8.setCell ⟨q+1,0,none⟩ (.int .i64 0)).setCell ⟨q+2,0,none⟩ (.int .i64 32)) (some (q+2)):=cd (aH (Below.refl _ _)) 0 _;have C6:nI ((W8.setCell ⟨q+1,0,none⟩ (.int .i64 0)).setCell ⟨q+2,0,none⟩ (.int .i64 32)) q z0 (.int .i64 0) (.int .i64 32):=
      ⟨(yz.out.st.far (p:=⟨q+1,0,none⟩) (by simp) _).far (p:=⟨q+2,0,none⟩) (by simp) _,(yz.out.at_.cg 0 _).far (p:=⟨q+2,0,none⟩) (by simp) _,(yz.out.er.far (p:=⟨q+1,0,none⟩) (by simp) _).cg 0 _⟩
     have acw:=yz.out.lt;have hb9:=(HB8.out.trans (bD g1 (by omega) (by omega))).trans (bD g2 (by have:=g1.size;omega) (by omega));refine xK C6 Ga.out rfl rfl rfl fun w' hb=>?_
     unfold fe;rw[Q9.out,if_neg (by rw[uT];simp),if_pos OY,Gb.out];exact⟨rfl,hq▸hb9.trans (hb.mono (by have:=C6.lt;omega))⟩
   ·rw[uT] at c2;go_upto_region 11 with fail
    refine wp_region_lit ?_;refine ja rfl 35 #[] rfl (cs:=z0) (by simpa using HZ.out) ?_;simp only[Act.put,List.setIfInBounds_toArray,List.set_cons_succ,List.set_cons_zero];refine wpList_store_row rfl 35 (.tmp 2) (.tmp 38) rfl q z0 rfl rfl 35 cs JH.out.st (by rw[Ga.out];exact cD) (by rw[Dm.out,Ga.out]) Y0.out ?_;have yz:=hid (show nI (w7.setRow q z0) q z0 (.int .i64 0) (.int .i64 0)from⟨JH.out.st.row z0,JH.out.at_.ia (by omega) z0,JH.out.er.ia (by omega) z0⟩);have HB8:=hid (C0.out.trans (bD (dH w7 q z0) (by omega) (Nat.le_refl _)));have HS8:=hid (show w7.heap.size=(w7.setRow q z0).heap.size by rw[size_setRow]);have BZ:=hid (St.at_.keep (iP w7 (show q < W3.heap.size by omega) z0) Xq.out);generalize w7.setRow q z0=W8 at*;have e1:=yz.out.at_.cell 0;have e2:=yz.out.er.cell 0;simp only[List.getElem?_toArray,List.getElem?_cons_zero] at e1 e2;have f1:=yz.out.at_.frozen 0;have f2:=yz.out.er.frozen 0;simp only[Act.put];go_wp2_with fail;have g1:W8.grownBy (W8.setCell ⟨q+1,0,none⟩ (.int .i64 0)) (some (q+1)):=cd (aH (Below.refl _ _)) 0 _;have g2:(W8.setCell ⟨q+1,0,none⟩ (.int .i64 0)).grownBy ((W8.setCell ⟨q+1,0,none⟩ (.int .i64 0)).setCell ⟨q+2,0,none⟩ (.int .i64 2)) (some (q+2)):=cd (aH (Below.refl _ _)) 0 _;have C6:nI ((W8.setCell ⟨q+1,0,none⟩ (.int .i64 0)).setCell ⟨q+2,0,none⟩ (.int .i64 2)) q z0 (.int .i64 0) (.int .i64 2):=
     ⟨(yz.out.st.far (p:=⟨q+1,0,none⟩) (by simp) _).far (p:=⟨q+2,0,none⟩) (by simp) _,(yz.out.at_.cg 0 _).far (p:=⟨q+2,0,none⟩) (by simp) _,(yz.out.er.far (p:=⟨q+1,0,none⟩) (by simp) _).cg 0 _⟩
    have acw:=yz.out.lt;have hb9:=(HB8.out.trans (bD g1 (by omega) (by omega))).trans (bD g2 (by have:=g1.size;omega) (by omega));refine xK C6 Ga.out rfl rfl rfl fun w' hb=>?_
    unfold fe;rw[Q9.out,if_pos uT,Gb.out];exact⟨rfl,hq▸hb9.trans (hb.mono (by have:=C6.lt;omega))⟩
  ·have Af:((k9:Int) != 0)=true:=by simp;omega
   have hpe:fO s.data.toList=.error (ρ.placeOf (⟨k9,s9,n9⟩::r6:bH).length,31):=by rw[tY (n:=(⟨k9,s9,n9⟩::r6:bH).length) HLL.out,← Dk.out];refine(ak (f:=fun s=>may jQ >>= fun _=>qV >>= fun _=>(pure s:Ps St)) oM.out).trans ?_;refine(ak (f:=fun _=>qV >>= fun _=>(pure d:Ps St)) HME.out).trans ?_;exact ai (by simp only[qV,hk,if_false])
   go_wp2_with fail;refine HN.out.mono ?_;clear HN YO;rintro e w7 ⟨rfl,b7⟩;have Q3:=Y6.out.later b7;have hb7:=Y7.out.trans (b7.mono (show q≤w6.heap.size by have:=Y6.out.lt;omega));have YO:=hid (kj ρ w7 _ _ _ (HD.out.at_.later b7));have JH:=hid Q3;have C0:=hid hb7;clear b7 Q3 hb7 Y6 Y7 HD;go_wp2_with fail;refine YO.out.mono ?_;rintro e w8 ⟨rfl,hgr⟩;have hc8:=JH.out.grown hgr (by omega);have hb8:=C0.out.trans (bD hgr (by have:=JH.out.lt;omega) (by omega));refine BF (N:=q) hc8 Dm.out (Nat.le_refl _) (ρ.placeOf (⟨k9,s9,n9⟩::r6:bH).length) rfl rfl rfl fun w' hb=>?_
   unfold fe;rw[hpe];exact⟨rfl,hq▸hb8.trans hb⟩
 ·have XU:=HC3.out.grown hgr (by omega);have hpe:fO s.data.toList=.error (ρ.placeOf n,31):=by rw[tY HLL.out (ai ar),← Dk.out]
  have hb4:=Q8.out.trans (bD hgr (by omega) (by omega));refine BF (N:=q) XU rfl (Nat.le_refl _) (ρ.placeOf n) rfl rfl rfl fun w' hb=>?_
  unfold fe;rw[hpe];exact⟨rfl,hq▸hb4.trans hb⟩
theorem Lv (s:ByteArray)(w:World)(hE:jO w)(hs:s.size≤4294967280):Calls Tryz.prog 10 #[.string s] w (fe s w):=by
 cases hl:mh s.data.toList with
 | error x=>obtain⟨p,x⟩:=x;exact Ul s w hE hs hl
 | ok l=>exact Un s w hE hs hl
end Go.Proofs.YtcneefmaghoejaaGreatDoor
