/- Parts of the proof. -/
import Derived.Deep.WholeRow
import Derived.Test.YtfmbcoeallmnnaaGreatDoorC19
import Derived.Test.YtfmbcoeallmnnaaGreatDoorC33
import Derived.Test.YtfmbcoeallmnnaaGreatDoorC35
namespace Go.Proofs.YtfmbcoeallmnnaaGreatDoor.R
open Go.Lib (hid)
open Go.ChangeShapes Go.WideShapes Go.ChangeAt Go.RowKit
set_option linter.unusedVariables false
set_option linter.unusedSimpArgs false
def qK:Array Value:=(lK {}).toArray
structure Yy (ρ:cu) (w:World) (big:Bool) (P:Ps St) (σ:aF) (k:Ps St) (q b:Nat) (wr:World) (bw:aF) (m:Cq) (d:St):Prop where
 did:dz ρ w wr bw (big || d.long)
 blk:ah wr b 89 (lK m).toArray
 res:ah wr q 89 qK
 at_:d.at_ wr (gf (b+1) wr) m
 todo:NF P σ k bw
 qb:w.heap.size≤q∧q < b
section
variable {ρ:cu} {w wr w2:World} {big:Bool} {P:Ps St} {σ bw:aF} {q b:Nat} {m:Cq} {d:St}
end
section
variable {ρ:cu} {w wr w2:World} {big:Bool} {P:Ps St} {σ bw:aF} {q b:Nat} {m:Cq} {d:St}
end
theorem yj (w:World)(q:Nat)(cs:Array Value):w.grownBy (w.setRow q cs) (some q):=
 ⟨rfl,rfl,rfl,by simp,fun i hi hne=>setRow_other w q i cs (fun e=>hne (by rw[e]))⟩
theorem zN {B q:Nat}(w:World)(hq:q < B)(cs:Array Value):∀b,gf B w b→(∀o,(w.setRow q cs).cell? ⟨b,o,none⟩=w.cell? ⟨b,o,none⟩)∧gf B (w.setRow q cs) b:=fun b hb=>
 ⟨cell_of_heap (setRow_other w q b cs (by have:=hb.1;omega)),hb.1,by rw[size_setRow];exact hb.2⟩
theorem ah.row {w:World} {q:Nat} {T:TypeId} {old:Array Value}(h:ah w q T old)(cs:Array Value):ah (w.setRow q cs) q T cs:=setRow_heap w q old cs T (0,0) h
theorem ah.NW {w:World} {q b:Nat} {T:TypeId} {old:Array Value}(h:ah w b T old)(hq:b≠q)(cs:Array Value):ah (w.setRow q cs) b T old:=(setRow_other w q b cs hq).trans h
theorem tN {w:World} {g:Nat} {t:TypeId} {cs:Array Value} {fr:Nat×Nat}(hg:w.heap[g]?=some (.cells cs t fr)):w.setRow g cs=w:=by
 have hh:(w.setRow g cs).heap=w.heap:=by
  apply Array.ext_getElem?;intro i;by_cases hi:i=g
  ·subst hi;exact(setRow_heap w i cs cs t fr hg).trans hg.symm
  ·exact setRow_other w g i cs hi
 cases w;simp only[World.setRow] at hh ⊢;rw[hh]
theorem np {P:Program} {fn:Func} {p u v:Tmp} {ty:TypeId}(h:fn.results= #[.cell p ty,.tmp u,.tmp v])(tmps:Array Value)(w:World)(g:Nat)(t:TypeId)(cs:Array Value)(fr:Nat×Nat)(d:TypeDesc)(x y:Value)
  (hp:tmps.getD p undef=.pointer (some ⟨g,0,none⟩)) (hg:w.heap[g]?=some (.cells cs t fr))
  (hu:P.underlying ty=some d) (hd:(match d with | .struct _ | .array _ _=>true | _=>false)=true) (hi:(P.info? ty).map (·.size)=some cs.size) (hx:tmps.getD u undef=x) (hy:tmps.getD v undef=y):
  (results fn tmps).run P w=.ok (.tuple #[.agg cs,x,y]) w:=by
 have Q7:tmps[p]?.getD undef=.pointer (some ⟨g,0,none⟩):=by simpa using hp
 have Q8:tmps[u]?.getD undef=x:=by simpa using hx
 have hy':tmps[v]?.getD undef=y:=by simpa using hy
 simp[results,h,Q7,Q8,hy',asAddr,Sem.run_bind,run_loadVar_row w g t ty cs fr d hg hu hd hi,Result.andThen]
theorem dz.row {ρ:cu} {W w:World} {σ:aF} {big:Bool} {q:Nat}(h:dz ρ W w σ big)(hW:ρ.g < W.heap.size)(hq:W.heap.size≤q)(cs:Array Value):dz ρ W (w.setRow q cs) σ big:=
 h.own hW (yj w q cs) (fun G e=>by injection e with e;omega)
def LD (ρ:cu)(w:World)(big:Bool)(P:Ps St)(σ:aF)(e:Ending)(w':World):Prop:=∃(d:St) (y:Cq),e=.returned (KT y)∧d.at_ w' (gf w.heap.size w') y∧dz ρ w w' (af P σ) (big || d.long)∧au P σ d
def pc (s:ByteArray)(w:World)(e:Ending)(w':World):Prop:=
 match mU s.data.toList with
 | .error (p,x)=>e=.returned (.tuple #[KT {},.int .i64 p,.int .i64 x])∧Below w.heap.size w w'
 | .ok d=>∃y:Cq,e=.returned (.tuple #[KT y,.int .i64 0,.int .i64 0])∧d.at_ w' (gf w.heap.size w') y∧Below w.heap.size w w'
theorem Fy:Tryz.prog.built 89 []=some qK:=by kernel_rfl
theorem cu.start {w:World} {gl c:Nat} {l:List Tok}(Wa:gl < w.heap.size)(hc:∀k t,l[k]?=some t→w.cell? ⟨gl,k*4,none⟩=some (.int .u8 t.w.k)∧w.cell? ⟨gl,k*4+1,none⟩=some (.string ⟨t.w.s.toArray⟩)∧w.cell? ⟨gl,k*4+2,none⟩=some (.int .i64 t.w.n)∧w.cell? ⟨gl,k*4+3,none⟩=some (.int .i64 t.p))
  (he:fT (l.map (·.w))) (hlen:l.length≤4097) (hwd:∀t∈l,NK t.w):
  (⟨w.heap.size,gl,c,l⟩:cu).at (w.alloc (.cells #[.slice (some ⟨gl,0,none⟩) l.length c,.int .i64 0,.int .i64 (-1),.bool false] 112)) (.good (l.map (·.w))) false:=by
 have hb:=ah.new w 112 #[.slice (some ⟨gl,0,none⟩) l.length c,.int .i64 0,.int .i64 (-1),.bool false];refine⟨?_,Wa,?_,⟨List.suffix_refl _,he⟩,?_,fun t ht=>(hwd t ht).1⟩
 ·have e:(⟨w.heap.size,gl,c,l⟩:cu).cells (.good (l.map (·.w))) false= #[.slice (some ⟨gl,0,none⟩) l.length c,.int .i64 0,.int .i64 (-1),.bool false]:=by simp[cu.cells,cu.n,cu.bad,aF.left]
  rw[e];exact hb
 ·intro k t hk;have c:=fun o=>World.cell?_alloc_lt w (.cells #[.slice (some ⟨gl,0,none⟩) l.length c,.int .i64 0,.int .i64 (-1),.bool false] 112) ⟨gl,o,none⟩ Wa
  obtain⟨h1,h2,h3,h4⟩:=hc k t hk;exact⟨(c _).trans h1,(c _).trans h2,(c _).trans h3,(c _).trans h4⟩
 ·show l.length≤5000;omega
theorem Ch {B:Nat}(w:World)(o:Obj)(cs:Array Value):∀b,gf B w b→(∀i,((w.alloc o).setRow w.heap.size cs).cell? ⟨b,i,none⟩=w.cell? ⟨b,i,none⟩)∧gf B ((w.alloc o).setRow w.heap.size cs) b:=fun b hb=>
 ⟨cell_of_heap ((setRow_other _ w.heap.size b cs (by have:=hb.2;omega)).trans (Below.heap_alloc w o b hb.2)),hb.1,by rw[size_setRow];have:=hb.2;simp;omega⟩
theorem NF.of_eq {α:Type} {P k:Ps α} {l l':fA}(h:P l=k l'):NF P (.good l) k (.good l'):=by
 refine⟨?_,fun z hz=>?_⟩
 ·simp only[af,h]
 ·simp only[au] at hz ⊢;rw[h];exact hz
abbrev qI:List (List UInt8):=[og,vu,vv,vw,vx,Dc]
section
variable {t:Wd} {r:fA}
theorem Ib (hk:t.k=1)(hs:t.s=dc):NF cH (.good (t::r)) yT (.good (t::r)):=.of_eq (by simp[cH,hk,hs])
end
structure V6 {α:Type} (E:El α) (T:TypeId) (lng:α→Bool) (el:Ps α) (ρ:cu) (w:World) (bg:Bool) (σ:aF) (q b i:Nat) (cs:Array Value) (d:St) (m:Cq) (k:Nat) (v:Value) (wr:World) (bw:aF) (acc:List α):Prop where
 pos:0 < acc.length
 few:acc.length+bw.left≤5001
 le:bw.left≤k
 row:eW E T wr (b+1) v acc
 did:dz ρ w wr bw ((bg || decide (64 < acc.length - 1))|| acc.any lng)
 blk:ah wr b 89 (cs.setIfInBounds i v)
 res:ah wr q 89 qK
 at_:St.at_ wr (nj (b+1) v wr) d m
 todo:ei el σ acc bw
 qb:w.heap.size≤q∧q < b
section
variable {α:Type} {E:El α} {T:TypeId} {lng:α→Bool} {el:Ps α} {ρ:cu} {w wr w8:World} {big bg:Bool} {P:Ps St} {V7 σ bw:aF} {q b i k:Nat} {m:Cq} {d:St} {w1 fF w2 W:World} {y:E.β} {v v':Value} {acc:List α} {cs:Array Value}
end
def yl:Obj:=.cells #[.int .u8 0,.string ⟨#[]⟩,.slice none 0 0,.string ⟨#[]⟩,.int .i64 0,.string ⟨#[]⟩,.int .i64 0,.slice none 0 0,.string ⟨#[]⟩,.bool false,.slice none 0 0,.slice none 0 0,.slice none 0 0,.slice none 0 0,.slice none 0 0,.int .u8 0,.string ⟨#[]⟩,.int .i64 0,.int .i64 0,.slice none 0 0,.slice none 0 0,.slice none 0 0,.int .u8 0,.int .i64 0,.string ⟨#[]⟩,.int .u8 0,.int .i64 0,.string ⟨#[]⟩] 89
theorem jR {P:Program} {ops:Array Oper} {rest:List Oper} {o:Oper} {a:Act} {w:World} {Q:Exit→Act→World→Prop}(hg:o.guard=none)(t:TypeId)(parts:Array (Nat×Operand))(ho:o.op=.build t parts) {cs:Array Value}
  (hv:P.built t (parts.map fun(i,x)=>(i,a.eval x)).toList=some cs) (h:wpList P ops Q rest (a.put o.dst (.agg cs)) w):wpList P ops Q (o::rest) a w:=
 wpList_build hg t parts ho (by rw[hv];rfl) (by rw[hv];exact h)
theorem LF (qy:zB):Tryz.prog.built 89 [(0,.int .u8 8),(7,Rq qy)]=some (lK { kind:=8,query:=qy }).toArray:=by kernel_rfl
set_option maxHeartbeats 4000000
set_option maxRecDepth 100000
theorem Eh (ρ:cu)(w:World)(t:Wd)(r:fA)(big:Bool)(h:ρ.at w (.good (t::r)) big)(hk:t.k=1)(hs:t.s=dc):
  Calls Tryz.prog 73 #[ρ.ptr] w (LD ρ w big cH (.good (t::r))):=by
 have cU:=h.qJ;obtain⟨tk,pl,bd,hpl,hlt,hsm,lV,aX,hg,wI,uN,hp⟩:=h.mY;obtain⟨r',iO⟩:=hg (t::r) rfl;injection iO with yC Q9;have hb:=ae.then (aa w yl) (aa _ yl)
 have h0:=h.later hb;have Vv:=hp.later hb;have Ie:=(ah.new w 89 qK).alloc yl;have Lv:=ah.new (w.alloc yl) 89 qK;rw[World.size_alloc] at Lv;have HL:=hid Lv;have HQ:=hid Ie;have HH:=hid h;have HP:=hid Vv;have uH:(aF.good (t::r)).head (⟨#[115,101,108,101,99,116]⟩:ByteArray).data.toList=true:=by have e:(aF.good (t::r)).head (⟨#[115,101,108,101,99,116]⟩:ByteArray).data.toList=((t.k==1 || t.k==4)&& t.s==dc):=rfl;simp[e,hk,hs]
 have RU:=hid uH;clear Lv Ie h hp Vv hg aX lV uH hpl;rw[show Obj.cells qK 89=yl from rfl] at HQ HL;unfold yl at*;clear Q9;go_enter Tryz.func73,Tryz.ntmps73;go_wp2_with fail;refine(jf ρ _ _ big h0 ⟨#[115,101,108,101,99,116]⟩).mono ?_;rintro e w1 ⟨rfl,b1⟩;rw[RU.out];have hb1:=ae.then hb b1
 have Co:=hid (HQ.out.later b1);clear HL HQ HP h0 b1 hb yC;go_wp2_with fail;refine(Eg ρ _ _ big (HH.out.later hb1)).mono ?_;rintro e w3 ⟨qd,qy,rfl,E7,d3,E8⟩;have hq:=d3.blk Co.out (by omega);have HQ:=hid hq;have HD:=hid ((dz.bH HH.out hb1).trans d3);have HS:=hid E7;have HG:=hid E8;have Vr:w.heap.size+1≤w1.heap.size:=Co.out.lt;clear hq d3 E7 E8 Co HH;go_wp2_with (first
  |(refine jR rfl 89 _ rfl (cs:=(lK { kind:=8,query:=qy }).toArray) ?hv ?_;rotate_left)
  |(refine wpList_store_row rfl 89 (.tmp 2) (.tmp 8) rfl w.heap.size (lK { kind:=8,query:=qy }).toArray rfl rfl 89 qK HQ.out (by rw[kp];exact gG) rfl (sP _) ?_
    have HR:=hid (HQ.out.row (lK { kind:=8,query:=qy }).toArray)
    have HF:=hid (HD.out.row cU (Nat.le_refl _) (lK { kind:=8,query:=qy }).toArray)
    have DB:=hid (Qu.at_.keep (eP (show w.heap.size≤w.heap.size+1 by omega)) (Qu.at_.keep (zN w3 (show w.heap.size < w.heap.size+1 by omega) (lK { kind:=8,query:=qy }).toArray) (Qu.at_.keep (eP Vr) HS.out)))))
 case hv=>exact LF qy
 have HT:=(Ib (r:=r) hk hs).go (p:=kK) (f:=fun query=>(pure { kind:=8,query:=query }:Ps St)) HG.out;refine bodyPost_ret (v:=KT { kind:=8,query:=qy }) (results_cell_row Tryz.results73 _ _ w.heap.size 89 (lK { kind:=8,query:=qy }).toArray (0,0) _ rfl HR.out Tryz.underlying89 rfl (by rw[kp];exact gG)) rfl ⟨{ kind:=8,query:=qd },{ kind:=8,query:=qy },rfl,{ St.sN _ _ with kind:=rfl,query:=DB.out },?_,HT.done.2⟩;rw[HT.done.1];have:=HF.out;rw[show(big || qd.long)=(big || St.long { kind:=8,query:=qd }) by simp[St.long]] at this;exact this
end Go.Proofs.YtfmbcoeallmnnaaGreatDoor.R
namespace Go.Proofs.YtfmbcoeallmnnaaGreatDoor
open Go.Lib (hid)
open Go.ChangeShapes Go.WideShapes Go.ChangeAt Go.RowKit
set_option linter.unusedVariables false
set_option linter.unusedSimpArgs false
def ym (v:R.Val):Val:=⟨v.k,v.n,v.s⟩
mutual
def Ei:R.Tr→Tr
 | .mk op v name width args=> .mk op (ym v) name width (fZ args)
def fZ:List R.Tr→List Tr
 | []=> []
 | t::ts=>Ei t::fZ ts
end
def Ej (y:R.Ex):Ex:=⟨y.op,ym y.v,y.name,y.width,y.A,y.n,y.c⟩
theorem nw:∀ts:List R.Tr,(fZ ts).length=ts.length
 | []=>by simp[fZ]
 | t::ts=>by simp[fZ,nw ts]
theorem PF {w:World} {S:Nat→Prop} {A:Option Addr} {ys:List R.Ex}(h:R.RL R.cM 7 w S A ys):LV w S A (ys.map Ej):=by
 rcases h with rfl |⟨b,off,h1,h2,h3⟩
 ·exact .inl rfl
 ·refine .inr ⟨b,off,h1,h2,fun i x hx=>?_⟩;rw[List.getElem?_map] at hx;cases hy:ys[i]? with
  | none=>rw[hy] at hx;cases hx
  | some y=>rw[hy] at hx;injection hx with hx;subst hx;have k:=h3 i y;exact⟨k 0 _ hy rfl,k 1 _ hy rfl,k 2 _ hy rfl,k 3 _ hy rfl,k 4 _ hy rfl,k 5 _ hy rfl,k 6 _ hy rfl⟩
mutual
theorem NY {w:World} {S:Nat→Prop}:∀(t:R.Tr) (y:R.Ex),t.at_ w S y→(Ei t).at_ w S (Ej y)
 | .mk op v name width args,y,h=>by unfold R.Tr.at_ at h;obtain⟨h1,h2,h3,h4,h5,ys,h6,h7⟩:=h;unfold Ei Tr.at_;exact⟨h1,by rw[← h2];rfl,h3,h4,by rw[nw];exact h5,ys.map Ej,PF h6,sS args ys h7⟩
theorem sS {w:World} {S:Nat→Prop}:∀(ts:List R.Tr) (ys:List R.Ex),R.Tr.bL w S ts ys→Tr.bL w S (fZ ts) (ys.map Ej)
 | [],ys,h=>by unfold R.Tr.bL at h;subst h;unfold fZ Tr.bL;rfl
 | t::ts,ys,h=>by unfold R.Tr.bL at h;obtain⟨y,ys',rfl,h1,h2⟩:=h;unfold fZ Tr.bL;exact⟨Ej y,ys'.map Ej,rfl,NY t y h1,sS ts ys' h2⟩
end
theorem Ci {w:World} {S:Nat→Prop}:∀ {ts:List R.Tr} {ys:List R.Ex},R.jd (R.Tr.at_ w S) ts ys→R.Tr.bL w S ts ys
 | _,_,.nil=>by unfold R.Tr.bL;rfl
 | _,_,.cons h k=>by unfold R.Tr.bL;exact⟨_,_,rfl,h,Ci k⟩
theorem LG {w:World} {S:Nat→Prop} {A:Option Addr} {n:Nat} {l:List R.Tr}(h:R.my.lies w S A n l):n=(fZ l).length∧∃ys,LV w S A ys∧Tr.bL w S (fZ l) ys:=by obtain⟨h1,ys,h2,h3⟩:=h;exact⟨by rw[nw];exact h1,ys.map Ej,PF h2,sS l ys (Ci h3)⟩
end Go.Proofs.YtfmbcoeallmnnaaGreatDoor
namespace Go.Proofs.YtfmbcoeallmnnaaGreatDoor.R
open Go.Lib (hid)
open Go.ChangeShapes Go.WideShapes Go.ChangeAt Go.RowKit
set_option linter.unusedVariables false
set_option linter.unusedSimpArgs false
set_option maxHeartbeats 4000000
set_option maxRecDepth 100000
theorem LH (s:ByteArray)(w:World)(hs:s.size≤4294967280) {l:List Tok}(hl:qm s.data.toList=.ok l) {t:Wd} {r:fA}(hb:af (may qp) (af cH (.good (l.map (·.w))))=.good (t::r))(hk:t.k=0)(E9:∀t0 r0,l=t0::r0→t0.w.k=1∧t0.w.s=dc):Calls Tryz.prog 51 #[.string s] w (pc s w):=by
 obtain⟨t0,r0,hl0⟩:=Ht hl;obtain⟨_,hlen,hwd⟩:=zH hl;have hne:l≠ []:=by rw[hl0];simp
 have F2:l.map (·.w)=t0.w::r0.map (·.w):=by rw[hl0];rfl
 have Vy:=E9 t0 r0 hl0;have F3:=hid Vy;clear E9 Vy;have R2:=hid (Hs hl);have R3:=hid hwd;have F4:=hid F2;clear hl0 hwd F2;have Ie:=ah.new w 89 qK;rw[show Obj.cells qK 89=yl from rfl] at Ie;have HQ:=hid Ie;clear Ie;unfold yl at*;go_enter Tryz.func51,Tryz.ntmps51;go_wp2_with fail;refine(NQ hl hs).mono ?_;rintro e w1 ⟨A,c,rfl,ht,b1⟩;obtain⟨gl,rfl,hgb,Wa,hc⟩:=ht.cells hne;have Co:=hid (HQ.out.later b1);have HB:=hid (ae.then (aa w _) b1);have hR:=cu.start (c:=c) Wa hc R2.out hlen R3.out;rw[F4.out] at hR;have HR:=hid hR;have Np:w.heap.size < w1.heap.size:=Co.out.lt;clear ht hc b1 HQ hR hgb hne;go_wp2_with fail;refine(Eh ⟨w1.heap.size,gl,c,l⟩ _ t0.w (r0.map (·.w)) false HR.out F3.out.1 F3.out.2).mono ?_;rintro e w2 ⟨d,y,rfl,hat,dd,fC⟩;rw[← F4.out] at dd fC;have HW:=hid (Le fC);rw[show(w1.alloc _).heap.size=w1.heap.size+1 by simp] at hat;have eJ:w1.heap.size <(w1.alloc (.cells #[.slice (some ⟨gl,0,none⟩) l.length c,.int .i64 0,.int .i64 (-1),.bool false] 112)).heap.size:=by simp
 have Sj:=dd.blk (Co.out.alloc _) (by show w.heap.size≠w1.heap.size;omega);have hs2:w1.heap.size+1≤w2.heap.size:=by have:=dd.size;simpa using this
 have Wb:=hid ((dd.later (aa w2 yl)).row eJ (by rw[show(w1.alloc _).heap.size=w1.heap.size+1 by simp];exact hs2) (lK y).toArray);have YA:=hid ((ah.new w2 89 qK).row (lK y).toArray);have gC:=hid ((Sj.alloc yl).NW (q:=w2.heap.size) (by omega) (lK y).toArray);have Vz:=hid (St.at_.keep (Ch w2 yl (lK y).toArray) hat);have V8:=hid (show w2.heap.size <((w2.alloc yl).setRow w2.heap.size (lK y).toArray).heap.size by rw[size_setRow];simp);have Sy:=hid (show Below w.heap.size w (w1.alloc (.cells #[.slice (some ⟨gl,0,none⟩) l.length c,.int .i64 0,.int .i64 (-1),.bool false] 112))from ae.then HB.out (aa w1 _));rw[Bool.false_or] at Wb;clear dd hat Sj Co HR HB fC;rw[show(Obj.cells qK 89)=yl from rfl] at YA;unfold yl at*;go_wp2_with (first
  |(refine wpList_store_row rfl 89 (.tmp 9) (.tmp 27) rfl w2.heap.size (lK y).toArray rfl rfl 89 qK (ah.new w2 89 qK) (by rw[kp];exact gG) rfl (sP _) ?_))
 generalize ((w2.alloc _).setRow _ _)=W3 at*;refine(cT ⟨w1.heap.size,gl,c,l⟩ _ _ _ Wb.out.at_ ⟨#[59]⟩).mono ?_;rintro e w4 ⟨rfl,d4⟩;rw[show(⟨#[59]⟩:ByteArray).data.toList=qp from rfl,hb] at d4;have Im:=hid (Wb.out.trans d4);have Fq:=hid (d4.blk gC.out (by show w.heap.size≠w1.heap.size;omega));have YB:=hid (d4.blk YA.out (by show w2.heap.size≠w1.heap.size;omega));have RV:=hid (St.at_.keep (dW d4.grown (show w1.heap.size < w1.heap.size+1 by omega)) Vz.out);clear d4 Wb gC YA Vz;have hE:af qq (.good (l.map (·.w)))=.good (t::r):=by rw[HW.out.1,hb,Hu,if_pos hk]
 have aS:=DZ hE HW.out.2;have YC:=hid (Ea hl aS);have Vt:=hid (Lf (n:=4097) (by simpa using hlen) aS);have VA:=hid (Sy.out.trans (tG Im.out.grown Sy.out.size (by show w.heap.size≤w1.heap.size;omega)));clear hE aS;obtain⟨tk,pl,bd,hpl,VB,hsm,lV,aX,hg,wI,uN,hp⟩:=Im.out.at_.mY;obtain⟨r',iO⟩:=hg _ rfl;injection iO with yC _;rw[yC] at hk;obtain rfl:bd= -1:=lV;obtain⟨c0,c1,c2,k0,k1,k2,k3⟩:=hp;simp only at c0 c1 c2 k0 k1 k2 k3;have VB:pl < l.length:=VB;have R4:(pl:Int)< l.length:=by omega
 clear hg aX hpl yC;rw[hk] at k0;have c3:=Im.out.at_.facts.2.2.2.1;simp only at c3;clear Im HW hb hl;cases KC:d.long
 ·rw[KC] at c3;have Wc:=hid KC;have YD:=hid (Hv Vt.out KC);clear KC;go_wp2_with (first
   |(refine wpList_load_row rfl 89 (.tmp 9) rfl w2.heap.size rfl 89 (lK y).toArray (0,0) _ YB.out Tryz.underlying89 rfl (by rw[kp];exact gG) ?_))
  clear c0 c1 c2 c3 k0 k1 k2 k3;refine(BX w4 d y (gf (w1.heap.size+1) w4) (fun b hb=>hb.2) RV.out YD.out.1 YD.out.2).mono ?_;rintro e w5 ⟨sl,rfl,hn,jV,b5⟩;obtain⟨_,ys,rK,hall⟩:=jV;have R5:=hid (Fq.out.later b5);have R6:=hid (YB.out.later b5);have YE:=hid (St.at_.keep (fk b5) RV.out);have F5:=hid (ae.then VA.out b5);have F6:=hid rK;have CW:=hid hall;have VC:=hid hn;have VX:=YD.out.1;rw[← VC.out] at VX;clear b5 rK hall hn Fq YB RV VA;obtain⟨sA,sn,sc⟩:=sl;unfold jF;simp only at VX F6 VC;go_wp2_with fail;go_loopw [11] (fun u wr=>∃i:Nat,i≤sn∧u=.int .i64 i∧(∀x∈d.exprs.take i,x.depth≤32)∧Below w5.heap.size w5 wr) (fun u _=>sn - (intOf u).toNat);case atStart=>exact⟨0,Nat.zero_le _,rfl,(fun x hx=>by simp at hx),Below.refl _ _⟩
  case round=>
   obtain⟨i,hi,rfl,OD,kt⟩:=hrel;have F7:=hid OD;have iZ:=hid kt;have YF:=hid (R5.out.later kt);have R7:=hid (R6.out.later kt);clear OD;by_cases hlt:i < sn
   ·obtain⟨x,hx⟩:∃x,d.exprs[i]?=some x:=⟨_,List.getElem?_eq_getElem (by have:=VC.out;omega)⟩;obtain⟨yx,CS⟩:∃yx,ys[i]?=some yx:=⟨_,List.getElem?_eq_getElem (by have h1:=CW.out.len;have h2:=VC.out;omega)⟩;have VD:x.at_ w5 (gf 0 w5) yx:=oC CW.out hx CS;have mq:=Vt.out.1 x (List.mem_of_getElem? hx);have OZ:=hid (Tr.Vb (w:=w5) (S:=gf 0 w5) (fun b hb=>hb.2) x yx VD mq.1 (by have:=mq.2;omega) wr kt);rcases F6.out with h0 |⟨b,off,BD,KU,hcell⟩
    ·subst h0;simp at CS
    have hcell:=fun j u hu=>(kt.cell (p:=⟨b,off+i*7+j,none⟩) KU.2).trans (hcell i yx j u CS hu)
    have q0:=hcell 0 _ rfl;have q1:=hcell 1 _ rfl;have q2:=hcell 2 _ rfl;have q3:=hcell 3 _ rfl;have q4:=hcell 4 _ rfl;have q5:=hcell 5 _ rfl;have q6:=hcell 6 _ rfl;simp only[Nat.add_zero] at q0;have HX:=hid hx;have PR:=mq.2;clear hcell hx CS VD mq;subst BD;go_wp2_with fail;clear q0 q1 q2 q3 q4 q5 q6;refine OZ.out.mono ?_;rintro e w6 ⟨rfl,b6⟩;by_cases R8:x.depth≤32
    ·have SS:¬((x.depth:Int)> 32):=by omega
     go_wp2_with fail;go_roundw;case rel=>exact⟨i+1,by omega,by go_num,Hw HX.out F7.out R8,iZ.out.trans (b6.mono iZ.out.size)⟩
     case measure=>simp[intOf];omega
    ·have SS:((x.depth:Int)> 32):=by omega
     have qB:=hid (YF.out.later b6);have R9:=hid (ae.then (ae.then F5.out iZ.out) b6);have S0:=hid (Lg (List.mem_of_getElem? HX.out) (by omega:32 < x.depth));clear b6;go_wp2_with (first
      |(refine jR rfl 89 _ rfl (cs:=qK) ?hv ?_;rotate_left)
      |(refine wpList_store_row rfl 89 (.tmp 2) (.tmp 81) rfl w.heap.size qK rfl rfl 89 qK qB.out (by rw[show qK.size=28 from rfl];exact gG) rfl (sP {}) ?_
        rw[tN qB.out]))
     case hv=>exact Fy
     refine bodyPost_ret (v:=.tuple #[KT {},.int .i64 0,.int .i64 32]) (np Tryz.results51 _ _ w.heap.size 89 qK (0,0) _ (.int .i64 0) (.int .i64 32) rfl qB.out Tryz.underlying89 rfl (by rw[show Array.size qK=28 from rfl];exact gG) rfl rfl) rfl ?_;unfold pc;rw[YC.out,if_neg (by rw[Wc.out];simp),if_pos S0.out];exact⟨rfl,R9.out⟩
   ·obtain rfl:i=sn:=by omega
    have F8:=NM (l:=d.exprs) (by have:=F7.out;rwa [List.take_of_length_le (by have:=VC.out;omega)] at this);have Mg:=hid F8;clear F8;have YG:=hid (St.at_.keep (fk kt) YE.out);have F9:=hid (ae.then F5.out kt);clear kt;go_wp2_with (first
     |(refine wpList_load_row rfl 89 (.tmp 9) rfl w2.heap.size rfl 89 (lK y).toArray (0,0) _ R7.out Tryz.underlying89 rfl (by rw[kp];exact gG) ?_)
     |(refine wpList_store_row rfl 89 (.tmp 2) (.tmp 82) rfl w.heap.size (lK y).toArray rfl rfl 89 qK YF.out (by rw[kp];exact gG) rfl (sP _) ?_
       have S1:=hid (YF.out.row (lK y).toArray)
       have S2:=hid (show d.at_ (wr.setRow w.heap.size (lK y).toArray) (gf w.heap.size (wr.setRow w.heap.size (lK y).toArray)) y from St.at_.keep (eP (show w.heap.size≤w1.heap.size+1 by omega)) (St.at_.keep (zN wr (show w.heap.size < w1.heap.size+1 by omega) (lK y).toArray) YG.out))
       have S3:=hid (F9.out.trans (tG (yj wr w.heap.size (lK y).toArray) F9.out.size (Nat.le_refl _)))))
    refine bodyPost_ret (v:=.tuple #[KT y,.int .i64 0,.int .i64 0]) (np Tryz.results51 _ _ w.heap.size 89 (lK y).toArray (0,0) _ (.int .i64 0) (.int .i64 0) rfl S1.out Tryz.underlying89 rfl (by rw[show Array.size (lK y).toArray=28 from rfl];exact gG) rfl rfl) rfl ?_;unfold pc;rw[YC.out,if_neg (by rw[Wc.out];simp),if_neg (by rw[Mg.out];simp)];exact⟨y,rfl,S2.out,S3.out⟩
 ·rw[KC] at c3;have Wc:=hid KC;clear KC;go_wp2_with (first
   |(refine jR rfl 89 _ rfl (cs:=qK) ?hv ?_;rotate_left)
   |(refine wpList_store_row rfl 89 (.tmp 2) (.tmp 66) rfl w.heap.size qK rfl rfl 89 qK Fq.out (by rw[show qK.size=28 from rfl];exact gG) rfl (sP {}) ?_
     rw[tN Fq.out]))
  case hv=>exact Fy
  refine bodyPost_ret (v:=.tuple #[KT {},.int .i64 0,.int .i64 2]) (np Tryz.results51 _ _ w.heap.size 89 qK (0,0) _ (.int .i64 0) (.int .i64 2) rfl Fq.out Tryz.underlying89 rfl (by rw[show Array.size qK=28 from rfl];exact gG) rfl rfl) rfl ?_;unfold pc;rw[YC.out,if_pos Wc.out];exact⟨rfl,VA.out⟩
def tO (s:ByteArray):Bool:=match qm s.data.toList with
 | .ok l=>(match l with | t0::_=>t0.w.k==1 && t0.w.s==dc | []=>false)&&(match af (may qp) (af cH (.good (l.map (·.w))))with | .good (t::r)=>t.k==0 | _=>false)
 | _=>false
theorem Cj (s:ByteArray)(w:World)(hs:s.size≤4294967280)(h:tO s=true):Calls Tryz.prog 51 #[.string s] w (pc s w):=by
 unfold tO at h;cases hl:qm s.data.toList with
 | error x=>rw[hl] at h;cases h
 | ok l=>
   rw[hl] at h;simp only[Bool.and_eq_true] at h;obtain⟨h1,h2⟩:=h;cases hb:af (may qp) (af cH (.good (l.map (·.w))))with
   | bad n=>rw[hb] at h2;cases h2
   | good m=>
     rw[hb] at h2
     match m,h2,hb with
     | t::r,h2,hb=>
       refine LH s w hs hl hb (by simpa using h2) fun t0 r0 e=>?_
       subst e;simpa using h1
end Go.Proofs.YtfmbcoeallmnnaaGreatDoor.R
namespace Go.Proofs.YtfmbcoeallmnnaaGreatDoor
open Go.Lib (hid)
open Go.ChangeShapes Go.WideShapes Go.ChangeAt Go.RowKit
set_option linter.unusedVariables false
set_option linter.unusedSimpArgs false
theorem wG (m:R.Cq):(R.lK m).toArray.size=28:=by simp[R.lK,R.wJ,R.Hj]
theorem NZ (m:R.Cq):(R.lK m).toArray.all (·.oneCell')=true:=by simp[R.lK,R.wJ,R.jF,R.Hj,Value.oneCell']
theorem LI:(Tryz.prog.info? 89).map (·.size)=some 28:=by kernel_rfl
def RX:Array Value:=(R.lK {}).toArray
theorem LJ (m:R.zB):(R.wJ m).toArray.size=8:=by simp[R.wJ]
theorem LK:(Tryz.prog.info? 59).map (·.size)=some 8:=by kernel_rfl
def Oa:Array Value:=(R.wJ {}).toArray
def pz:ByteArray:=⟨#[115,101,108,101,99,116,32]⟩
def LL (d:R.St)(w:World)(e:Ending)(w':World):Prop:=∃y:R.zB,e=.returned (R.Rq y)∧d.query.at_ w' (Old w') y∧Below w.heap.size w w'
set_option maxHeartbeats 4000000
set_option maxRecDepth 100000
theorem LM (s:ByteArray)(d:R.St)(hs:(pz++s).size≤4294967280)(hd:R.mU (pz++s).data.toList=.ok d)(hq:R.tO (pz++s)=true)(w:World):Calls Tryz.prog 26 #[.string s] w (LL d w):=by
 have HD:=hid hd;have HZ:=ah.new w 59 Oa;have hB:=aa w (.cells Oa 59);clear hd;go_enter Tryz.func26,Tryz.ntmps26;go_upto_region 1 with fail
 change Code.wp _ _ _ _ (w.alloc (.cells Oa 59));generalize w.alloc _=W at*;obtain⟨gz,dF⟩:∃gz,gz=w.heap.size:=⟨_,rfl⟩;rw[← dF] at HZ ⊢;have hz:w.heap.size≤gz:=by omega
 have UN:=HZ.lt;clear dF;have hz1:¬9223372036854775807 < 7+s.size:=by have h:=hs;rw[ByteArray.size_append] at h;have:pz.size=7:=rfl;omega
 have HP:=hid (R.Cj (pz++s) W hs hq);go_wp2_with fail;refine HP.out.mono ?_;rintro e w1 h;unfold R.pc at h;rw[HD.out] at h;obtain⟨y,rfl,hat,b1⟩:=h;have pO:=hid hat;replace HZ:=HZ.later b1;replace hB:=ae.then hB b1
 clear hat HP;obtain⟨cs,hcs⟩:∃cs,cs=(R.lK y).toArray:=⟨_,rfl⟩;have Xs:=hid (show(Tryz.prog.info? 89).map (·.size)=some cs.size by rw[hcs,wG];exact LI);have We:=hid (show RX.size=cs.size by rw[hcs,wG];exact wG _);have G0:=hid (show cs.all (·.oneCell')=true by rw[hcs];exact NZ _);have PG:=hid hcs;unfold R.KT;rw[← hcs];clear hcs b1 hz1;have bn:=aa w1 (.cells cs 89);have H3:=ah.new w1 89 cs;have dF:=HZ.lt;go_upto_region 2 with (first
  |(refine wpList_store_row rfl 89 (.tmp 3) (.tmp 10) rfl w1.heap.size cs rfl rfl 89 RX (ah.new w1 89 RX) Xs.out We.out G0.out ?_
    rw[World.setRow_alloc_new]))
 change Code.wp _ _ _ _ (w1.alloc (.cells cs 89));have YH:=hid (R.St.at_.keep (R.fk bn) pO.out);replace HZ:=HZ.later bn;replace hB:=ae.then hB bn
 have l3:w.heap.size≤w1.heap.size:=by omega
 clear bn Xs We G0 pO;generalize w1.alloc _=W2 at*;generalize w1.heap.size=g3 at*;have c0:W2.cell? ⟨g3,7,none⟩=some (R.jF y.query.items):=(H3.cell 7).trans (by rw[PG.out];rfl);have c1:W2.cell? ⟨g3,8,none⟩=some (.string y.query.cq):=(H3.cell 8).trans (by rw[PG.out];rfl);have c2:W2.cell? ⟨g3,9,none⟩=some (.bool y.query.only):=(H3.cell 9).trans (by rw[PG.out];rfl);have c3:W2.cell? ⟨g3,10,none⟩=some (R.jF y.query.bU):=(H3.cell 10).trans (by rw[PG.out];rfl);have c4:W2.cell? ⟨g3,11,none⟩=some (R.jF y.query.group):=(H3.cell 11).trans (by rw[PG.out];rfl);have c5:W2.cell? ⟨g3,12,none⟩=some (R.jF y.query.having):=(H3.cell 12).trans (by rw[PG.out];rfl);have c6:W2.cell? ⟨g3,13,none⟩=some (R.jF y.query.order):=(H3.cell 13).trans (by rw[PG.out];rfl);have c7:W2.cell? ⟨g3,14,none⟩=some (R.jF y.query.bP):=(H3.cell 14).trans (by rw[PG.out];rfl);unfold R.jF at c0 c3 c4 c5 c6 c7;have Cm:=HZ.frozen;have z:∀j u,Oa[j]?=some u→W2.cell? ⟨gz,j,none⟩=some u:=fun j u h=>(HZ.cell j).trans h
 have z0:=z 0 _ rfl;have z1:=z 1 _ rfl;have z2:=z 2 _ rfl;have z3:=z 3 _ rfl;have z4:=z 4 _ rfl;have z5:=z 5 _ rfl;have z6:=z 6 _ rfl;have z7:=z 7 _ rfl;have G1:=((((((((HZ.cn 0 (.slice y.query.items.A y.query.items.n y.query.items.c)).cn 1 (.string y.query.cq)).cn 2 (.bool y.query.only)).cn 3 (.slice y.query.bU.A y.query.bU.n y.query.bU.c)).cn 4 (.slice y.query.group.A y.query.group.n y.query.group.c)).cn 5 (.slice y.query.having.A y.query.having.n y.query.having.c)).cn 6 (.slice y.query.order.A y.query.order.n y.query.order.c)).cn 7 (.slice y.query.bP.A y.query.bP.n y.query.bP.c));have TY:=hid (cQ (cQ (cQ (cQ (cQ (cQ (cQ (cQ (qY (p:=gz) (Below.refl W2.heap.size W2)) 0 (.slice y.query.items.A y.query.items.n y.query.items.c)) 1 (.string y.query.cq)) 2 (.bool y.query.only)) 3 (.slice y.query.bU.A y.query.bU.n y.query.bU.c)) 4 (.slice y.query.group.A y.query.group.n y.query.group.c)) 5 (.slice y.query.having.A y.query.having.n y.query.having.c)) 6 (.slice y.query.order.A y.query.order.n y.query.order.c)) 7 (.slice y.query.bP.A y.query.bP.n y.query.bP.c));have VA:=hid ((((((((hB.setCell (p:=⟨gz,0,none⟩) hz (.slice y.query.items.A y.query.items.n y.query.items.c)).setCell (p:=⟨gz,1,none⟩) hz (.string y.query.cq)).setCell (p:=⟨gz,2,none⟩) hz (.bool y.query.only)).setCell (p:=⟨gz,3,none⟩) hz (.slice y.query.bU.A y.query.bU.n y.query.bU.c)).setCell (p:=⟨gz,4,none⟩) hz (.slice y.query.group.A y.query.group.n y.query.group.c)).setCell (p:=⟨gz,5,none⟩) hz (.slice y.query.having.A y.query.having.n y.query.having.c)).setCell (p:=⟨gz,6,none⟩) hz (.slice y.query.order.A y.query.order.n y.query.order.c)).setCell (p:=⟨gz,7,none⟩) hz (.slice y.query.bP.A y.query.bP.n y.query.bP.c));have HR:=hid (show ah _ gz 59 (R.wJ y.query).toArray from G1);clear z HZ hB G1 H3;go_wp2_with fail;have HQ:=R.Qu.at_.keep (fun b hb=>((R.dW TY.out UN) b hb).imp id fun h=>h.2) YH.out.query;exact bodyPost_ret (v:=R.Rq y.query) (results_cell_row Tryz.results26 _ _ gz 59 (R.wJ y.query).toArray (0,0) _ rfl HR.out Tryz.underlying59 rfl (by rw[LJ];exact LK)) rfl ⟨y.query,rfl,HQ,VA.out⟩
def sT:ByteArray:=⟨#[97,32,102,114,111,109,32,116,32,119,104,101,114,101,32]⟩
theorem LN (a b c d e f g h:Value)(w:World):(Instr.field 59 (.agg #[a,b,c,d,e,f,g,h]) 3).run Tryz.prog w=.ok d w:=by kernel_rfl
def Ic (d:R.St)(w:World)(e:Ending)(w':World):Prop:=∃A n c,e=.returned (.slice A n c)∧iH w' (fZ d.query.bU) A n∧Below w.heap.size w w'
theorem pd (s:ByteArray)(d:R.St)(hs:(pz++(sT++s)).size≤4294967280)(hd:R.mU (pz++(sT++s)).data.toList=.ok d)(hq:R.tO (pz++(sT++s))=true)(w:World):Calls Tryz.prog 15 #[.string s] w (Ic d w):=by
 have hz1:¬9223372036854775807 < 15+s.size:=by have h:=hs;rw[ByteArray.size_append,ByteArray.size_append] at h;have:sT.size=15:=rfl;omega
 have HP:=hid (LM (sT++s) d hs hd hq w);clear hd;go_enter Tryz.func15,Tryz.ntmps15;go_wp2_with fail;refine HP.out.mono ?_;rintro e w1 ⟨y,rfl,hat,b1⟩;have hl:=LG hat.bU;have HL:=hid hl;unfold R.Rq R.wJ R.jF;obtain⟨⟨iA,iN,iC⟩,cq,only,⟨wA,wn,wc⟩,⟨gA,gn,gc⟩,⟨hA,hn,hc⟩,⟨oA,on,oc⟩,⟨lA,ln,lc⟩⟩:=y;dsimp only at hl ⊢;clear hat hl HP;have hf:=LN;go_wp2_with fail;go_ret;exact⟨wA,wn,wc,rfl,⟨HL.out.1,HL.out.2⟩,b1⟩
def YI:ByteArray:=⟨#[100,32,61,32,39,120,39,32,97,110,100,32,118,32,61,32,49]⟩
def VE:R.St:= { kind:=8,query:= { items:=[(R.jJ ⟨#[97]⟩,⟨#[]⟩)],cq:=⟨#[116]⟩,bU:=[R.gH 16 [R.gH 10 [R.jJ ⟨#[100]⟩,R.ig ⟨3,0,⟨#[120]⟩⟩],R.gH 10 [R.jJ ⟨#[118]⟩,R.ig ⟨2,1,⟨#[]⟩⟩]]] } }
theorem Ob:R.mU (pz++(sT++YI)).data.toList=.ok VE:=by kernel_rfl
theorem Oc:R.tO (pz++(sT++YI))=true:=by kernel_rfl
theorem RY:Tr.iW (fZ VE.query.bU):=by simp[VE,fZ,Ei,Tr.iW,Tr.ok,Val.Ok,ym,R.gH,R.jJ,R.ig,R.fg]
def YJ:ByteArray:=⟨#[100,32,61,32,39,120,39,32,111,114,32,100,32,61,32,39,121,39]⟩
def VF:R.St:= { kind:=8,query:= { items:=[(R.jJ ⟨#[97]⟩,⟨#[]⟩)],cq:=⟨#[116]⟩,bU:=[R.gH 17 [R.gH 10 [R.jJ ⟨#[100]⟩,R.ig ⟨3,0,⟨#[120]⟩⟩],R.gH 10 [R.jJ ⟨#[100]⟩,R.ig ⟨3,0,⟨#[121]⟩⟩]]] } }
theorem Od:R.mU (pz++(sT++YJ)).data.toList=.ok VF:=by kernel_rfl
theorem Oe:R.tO (pz++(sT++YJ))=true:=by kernel_rfl
theorem RZ:Tr.iW (fZ VF.query.bU):=by simp[VF,fZ,Ei,Tr.iW,Tr.ok,Val.Ok,ym,R.gH,R.jJ,R.ig,R.fg]
def YK:ByteArray:=⟨#[116,105,109,101,32,62,61,32,51,32,97,110,100,32,116,105,109,101,32,60,32,57,32,97,110,100,32,118,32,61,32,49]⟩
def VG:R.St:= { kind:=8,query:= { items:=[(R.jJ ⟨#[97]⟩,⟨#[]⟩)],cq:=⟨#[116]⟩,bU:=[R.gH 16 [R.gH 16 [R.gH 15 [R.jJ ⟨#[116,105,109,101]⟩,R.ig ⟨2,3,⟨#[]⟩⟩],R.gH 12 [R.jJ ⟨#[116,105,109,101]⟩,R.ig ⟨2,9,⟨#[]⟩⟩]],R.gH 10 [R.jJ ⟨#[118]⟩,R.ig ⟨2,1,⟨#[]⟩⟩]]] } }
theorem Og:R.mU (pz++(sT++YK)).data.toList=.ok VG:=by kernel_rfl
theorem Oh:R.tO (pz++(sT++YK))=true:=by kernel_rfl
theorem Sa:Tr.iW (fZ VG.query.bU):=by simp[VG,fZ,Ei,Tr.iW,Tr.ok,Val.Ok,ym,R.gH,R.jJ,R.ig,R.fg]
def YL:ByteArray:=⟨#[116,105,109,101,32,60,32,51,32,97,110,100,32,116,105,109,101,32,62,32,53]⟩
def VH:R.St:= { kind:=8,query:= { items:=[(R.jJ ⟨#[97]⟩,⟨#[]⟩)],cq:=⟨#[116]⟩,bU:=[R.gH 16 [R.gH 12 [R.jJ ⟨#[116,105,109,101]⟩,R.ig ⟨2,3,⟨#[]⟩⟩],R.gH 14 [R.jJ ⟨#[116,105,109,101]⟩,R.ig ⟨2,5,⟨#[]⟩⟩]]] } }
theorem Oi:R.mU (pz++(sT++YL)).data.toList=.ok VH:=by kernel_rfl
theorem Oj:R.tO (pz++(sT++YL))=true:=by kernel_rfl
theorem Sb:Tr.iW (fZ VH.query.bU):=by simp[VH,fZ,Ei,Tr.iW,Tr.ok,Val.Ok,ym,R.gH,R.jJ,R.ig,R.fg]
def dB:ByteArray:=⟨#[100]⟩
def yo:ByteArray:=⟨#[116,105,109,101]⟩
theorem Sc:iD (fZ VE.query.bU) dB=some ⟨3,0,⟨#[120]⟩⟩:=by kernel_rfl
theorem Sd:iD (fZ VF.query.bU) dB=none:=by kernel_rfl
theorem Sg:lj (fZ VG.query.bU) yo=⟨3,9⟩:=by kernel_rfl
theorem Sh:lj (fZ VH.query.bU) yo=⟨0,0⟩:=by kernel_rfl
theorem Si:lj [] yo=aP:=rfl
theorem pg (w:World)(hE:gj w):Calls Tryz.prog 7 #[] w fun e w'=>e=.returned (.bool true)∧Below w.heap.size w w':=by
 have HE:=hid hE;have HB:=hid (Below.refl w.heap.size w);clear hE;go_enter Tryz.func7,Tryz.ntmps7;go_wp2_with fail;refine(pd YI VE (by decide) Ob Oc _).mono ?_;rintro e w1 ⟨A,n,c,rfl,hl,b1⟩;replace HE:=hid (HE.out.later b1);replace HB:=hid (ae.then HB.out b1);clear b1;have hv:=ql _ A n c dB w1 RY hl;rw[Sc] at hv;unfold dv fQ iX at hv;dsimp only at hv;have HV:=hid hv;clear hv hl;go_wp2_with fail;refine HV.out.mono ?_;rintro e w2 ⟨rfl,b1⟩;replace HE:=hid (HE.out.later b1);replace HB:=hid (ae.then HB.out b1);clear b1;clear HV;go_upto_region 2 with fail
 have H1:=ah.new w2 26 #[.int .u8 3,.int .i64 0,.string ⟨#[120]⟩];have b1:=aa w2 (.cells #[.int .u8 3,.int .i64 0,.string ⟨#[120]⟩] 26);replace HE:=hid (HE.out.later b1);replace HB:=hid (ae.then HB.out b1);clear b1;generalize w2.alloc _=W2 at*;generalize w2.heap.size=g1 at*;go_wp2_with fail;refine(pd YJ VF (by decide) Od Oe _).mono ?_;rintro e w3 ⟨A,n,c,rfl,hl,b1⟩;replace HE:=hid (HE.out.later b1);replace HB:=hid (ae.then HB.out b1);replace H1:=H1.later b1;clear b1;have hv:=ql _ A n c dB w3 RZ hl;rw[Sd] at hv;unfold dv fQ at hv;rw[show iX none=aL from rfl] at hv;unfold aL at hv;dsimp only at hv;have HV:=hid hv;clear hv hl;go_wp2_with fail;refine HV.out.mono ?_;rintro e w4 ⟨rfl,b1⟩;replace HE:=hid (HE.out.later b1);replace HB:=hid (ae.then HB.out b1);replace H1:=H1.later b1;clear b1;clear HV;go_upto_region 3 with fail
 have b1:=aa w4 (.cells #[.int .u8 0,.int .i64 0,.string ByteArray.empty] 26);replace HE:=hid (HE.out.later b1);replace HB:=hid (ae.then HB.out b1);replace H1:=H1.later b1;clear b1;generalize w4.alloc _=W4 at*;go_wp2_with fail;refine(pd YK VG (by decide) Og Oh _).mono ?_;rintro e w5 ⟨A,n,c,rfl,hl,b1⟩;replace HE:=hid (HE.out.later b1);replace HB:=hid (ae.then HB.out b1);replace H1:=H1.later b1;clear b1;have hv:=oL _ A n c yo w5 Sa hl HE.out;rw[Sg] at hv;unfold cv aM at hv;dsimp only at hv;have HV:=hid hv;clear hv hl;go_wp2_with fail;refine HV.out.mono ?_;rintro e w6 ⟨rfl,b1⟩;replace HE:=hid (HE.out.later b1);replace HB:=hid (ae.then HB.out b1);replace H1:=H1.later b1;clear b1;clear HV;go_wp2_with fail;refine(pd YL VH (by decide) Oi Oj _).mono ?_;rintro e w7 ⟨A,n,c,rfl,hl,b1⟩;replace HE:=hid (HE.out.later b1);replace HB:=hid (ae.then HB.out b1);replace H1:=H1.later b1;clear b1;have hv:=oL _ A n c yo w7 Sb hl HE.out;rw[Sh] at hv;unfold cv aM at hv;dsimp only at hv;have HV:=hid hv;clear hv hl;go_wp2_with fail;refine HV.out.mono ?_;rintro e w8 ⟨rfl,b1⟩;replace HE:=hid (HE.out.later b1);replace HB:=hid (ae.then HB.out b1);replace H1:=H1.later b1;clear b1;clear HV;have hv:=oL [] none 0 0 yo w8 (by unfold Tr.iW;trivial) ⟨rfl,[],.inl rfl,by unfold Tr.bL;rfl⟩ HE.out;rw[Si] at hv;unfold cv aM aP cP bo at hv;dsimp only at hv;have HV:=hid hv;clear hv;go_wp2_with fail;refine HV.out.mono ?_;rintro e w9 ⟨rfl,b1⟩;replace HE:=hid (HE.out.later b1);replace HB:=hid (ae.then HB.out b1);replace H1:=H1.later b1;clear b1;clear HV;have YM:=H1.cell 0;have YN:=H1.cell 1;have YO:=H1.cell 2;simp only[List.getElem?_toArray,List.getElem?_cons_zero,List.getElem?_cons_succ] at YM YN YO;go_wp2_with fail;go_ret;exact⟨rfl,HB.out⟩
end Go.Proofs.YtfmbcoeallmnnaaGreatDoor
