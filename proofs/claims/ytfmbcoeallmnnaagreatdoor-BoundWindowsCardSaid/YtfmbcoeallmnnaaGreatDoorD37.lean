/- Parts of the proof. -/
import Derived.Deep.WholeRow
import Derived.Test.YtfmbcoeallmnnaaGreatDoorD20
import Derived.Test.YtfmbcoeallmnnaaGreatDoorD34
import Derived.Test.YtfmbcoeallmnnaaGreatDoorD36
namespace Go.Proofs.YtfmbcoeallmnnaaGreatDoor.R
open Go.Lib (hid)
open Go.ChangeShapes Go.WideShapes Go.ChangeAt Go.RowKit
set_option linter.unusedVariables false
set_option linter.unusedSimpArgs false
def rS:Array Value:=(mo {}).toArray
structure U8 (ρ:cB) (w:World) (big:Bool) (P:Ps St) (σ:aH) (k:Ps St) (q b:Nat) (wr:World) (bB:aH) (m:Fk) (d:St):Prop where
 did:dH ρ w wr bB (big || d.long)
 blk:ag wr b 89 (mo m).toArray
 res:ag wr q 89 rS
 at_:d.at_ wr (gK (b+1) wr) m
 todo:RU P σ k bB
 qb:w.heap.size≤q∧q < b
section
variable {ρ:cB} {w wr w2:World} {big:Bool} {P:Ps St} {σ bB:aH} {q b:Nat} {m:Fk} {d:St}
end
section
variable {ρ:cB} {w wr w2:World} {big:Bool} {P:Ps St} {σ bB:aH} {q b:Nat} {m:Fk} {d:St}
end
theorem AJ (w:World)(q:Nat)(cs:Array Value):w.grownBy (w.setRow q cs) (some q):=
 ⟨rfl,rfl,rfl,by simp,fun i hi hne=>setRow_other w q i cs (fun e=>hne (by rw[e]))⟩
theorem Cj {B q:Nat}(w:World)(hq:q < B)(cs:Array Value):∀b,gK B w b→(∀o,(w.setRow q cs).cell? ⟨b,o,none⟩=w.cell? ⟨b,o,none⟩)∧gK B (w.setRow q cs) b:=fun b hb=>
 ⟨cell_of_heap (setRow_other w q b cs (by have:=hb.1;omega)),hb.1,by rw[size_setRow];exact hb.2⟩
theorem ag.row {w:World} {q:Nat} {T:TypeId} {old:Array Value}(h:ag w q T old)(cs:Array Value):ag (w.setRow q cs) q T cs:=setRow_heap w q old cs T (0,0) h
theorem ag.Sr {w:World} {q b:Nat} {T:TypeId} {old:Array Value}(h:ag w b T old)(hq:b≠q)(cs:Array Value):ag (w.setRow q cs) b T old:=(setRow_other w q b cs hq).trans h
theorem vh {w:World} {g:Nat} {t:TypeId} {cs:Array Value} {fr:Nat×Nat}(hg:w.heap[g]?=some (.cells cs t fr)):w.setRow g cs=w:=by
 have hh:(w.setRow g cs).heap=w.heap:=by
  apply Array.ext_getElem?;intro i;by_cases hi:i=g
  ·subst hi;exact(setRow_heap w i cs cs t fr hg).trans hg.symm
  ·exact setRow_other w g i cs hi
 cases w;simp only[World.setRow] at hh ⊢;rw[hh]
theorem nX {P:Program} {fn:Func} {p u v:Tmp} {ty:TypeId}(h:fn.results= #[.cell p ty,.tmp u,.tmp v])(tmps:Array Value)(w:World)(g:Nat)(t:TypeId)(cs:Array Value)(fr:Nat×Nat)(d:TypeDesc)(x y:Value)
  (hp:tmps.getD p undef=.pointer (some ⟨g,0,none⟩)) (hg:w.heap[g]?=some (.cells cs t fr))
  (hu:P.underlying ty=some d) (hd:(match d with | .struct _ | .array _ _=>true | _=>false)=true) (hi:(P.info? ty).map (·.size)=some cs.size) (hx:tmps.getD u undef=x) (hy:tmps.getD v undef=y):
  (results fn tmps).run P w=.ok (.tuple #[.agg cs,x,y]) w:=by
 have hp':tmps[p]?.getD undef=.pointer (some ⟨g,0,none⟩):=by simpa using hp
 have hx':tmps[u]?.getD undef=x:=by simpa using hx
 have hy':tmps[v]?.getD undef=y:=by simpa using hy
 simp[results,h,hp',hx',hy',asAddr,Sem.run_bind,run_loadVar_row w g t ty cs fr d hg hu hd hi,Result.andThen]
theorem dH.row {ρ:cB} {W w:World} {σ:aH} {big:Bool} {q:Nat}(h:dH ρ W w σ big)(hW:ρ.g < W.heap.size)(hq:W.heap.size≤q)(cs:Array Value):dH ρ W (w.setRow q cs) σ big:=
 h.own hW (AJ w q cs) (fun G e=>by injection e with e;omega)
def Pz (ρ:cB)(w:World)(big:Bool)(P:Ps St)(σ:aH)(e:Ending)(w':World):Prop:=∃(d:St) (y:Fk),e=.returned (OO y)∧d.at_ w' (gK w.heap.size w') y∧dH ρ w w' (af P σ) (big || d.long)∧au P σ d
def qc (s:ByteArray)(w:World)(e:Ending)(w':World):Prop:=
 match nM s.data.toList with
 | .error (p,x)=>e=.returned (.tuple #[OO {},.int .i64 p,.int .i64 x])∧Below w.heap.size w w'
 | .ok d=>∃y:Fk,e=.returned (.tuple #[OO y,.int .i64 0,.int .i64 0])∧d.at_ w' (gK w.heap.size w') y∧Below w.heap.size w w'
theorem Jt:Tryz.prog.built 89 []=some rS:=by kernel_rfl
theorem cB.start {w:World} {gl c:Nat} {l:List Tok}(H0:gl < w.heap.size)(hc:∀k t,l[k]?=some t→w.cell? ⟨gl,k*4,none⟩=some (.int .u8 t.w.k)∧w.cell? ⟨gl,k*4+1,none⟩=some (.string ⟨t.w.s.toArray⟩)∧w.cell? ⟨gl,k*4+2,none⟩=some (.int .i64 t.w.n)∧w.cell? ⟨gl,k*4+3,none⟩=some (.int .i64 t.p))
  (he:gC (l.map (·.w))) (hlen:l.length≤4097) (hwd:∀t∈l,Sb t.w):
  (⟨w.heap.size,gl,c,l⟩:cB).at (w.alloc (.cells #[.slice (some ⟨gl,0,none⟩) l.length c,.int .i64 0,.int .i64 (-1),.bool false] 112)) (.good (l.map (·.w))) false:=by
 have hb:=ag.new w 112 #[.slice (some ⟨gl,0,none⟩) l.length c,.int .i64 0,.int .i64 (-1),.bool false];refine⟨?_,H0,?_,⟨List.suffix_refl _,he⟩,?_,fun t ht=>(hwd t ht).1⟩
 ·have e:(⟨w.heap.size,gl,c,l⟩:cB).cells (.good (l.map (·.w))) false= #[.slice (some ⟨gl,0,none⟩) l.length c,.int .i64 0,.int .i64 (-1),.bool false]:=by simp[cB.cells,cB.n,cB.bad,aH.left]
  rw[e];exact hb
 ·intro k t hk;have c:=fun o=>World.cell?_alloc_lt w (.cells #[.slice (some ⟨gl,0,none⟩) l.length c,.int .i64 0,.int .i64 (-1),.bool false] 112) ⟨gl,o,none⟩ H0
  obtain⟨h1,h2,h3,h4⟩:=hc k t hk;exact⟨(c _).trans h1,(c _).trans h2,(c _).trans h3,(c _).trans h4⟩
 ·show l.length≤5000;omega
theorem ET {B:Nat}(w:World)(o:Obj)(cs:Array Value):∀b,gK B w b→(∀i,((w.alloc o).setRow w.heap.size cs).cell? ⟨b,i,none⟩=w.cell? ⟨b,i,none⟩)∧gK B ((w.alloc o).setRow w.heap.size cs) b:=fun b hb=>
 ⟨cell_of_heap ((setRow_other _ w.heap.size b cs (by have:=hb.2;omega)).trans (Below.heap_alloc w o b hb.2)),hb.1,by rw[size_setRow];have:=hb.2;simp;omega⟩
theorem RU.of_eq {α:Type} {P k:Ps α} {l l':fN}(h:P l=k l'):RU P (.good l) k (.good l'):=by
 refine⟨?_,fun z hz=>?_⟩
 ·simp only[af,h]
 ·simp only[au] at hz ⊢;rw[h];exact hz
abbrev rN:List (List UInt8):=[pk,xD,xE,xF,xG,Gg]
section
variable {t:Wd} {r:fN}
theorem LL (hk:t.k=1)(hs:t.s=dp):RU cM (.good (t::r)) Bw (.good (t::r)):=.of_eq (by simp[cM,hk,hs])
end
structure LAt {α:Type} (E:El α) (T:TypeId) (lng:α→Bool) (el:Ps α) (ρ:cB) (w:World) (bg:Bool) (σ:aH) (q b i:Nat) (cs:Array Value) (d:St) (m:Fk) (k:Nat) (v:Value) (wr:World) (bB:aH) (acc:List α):Prop where
 pos:0 < acc.length
 few:acc.length+bB.left≤5001
 le:bB.left≤k
 row:fj E T wr (b+1) v acc
 did:dH ρ w wr bB ((bg || decide (64 < acc.length - 1))|| acc.any lng)
 blk:ag wr b 89 (cs.setIfInBounds i v)
 res:ag wr q 89 rS
 at_:St.at_ wr (nV (b+1) v wr) d m
 todo:ez el σ acc bB
 qb:w.heap.size≤q∧q < b
section
variable {α:Type} {E:El α} {T:TypeId} {lng:α→Bool} {el:Ps α} {ρ:cB} {w wr w8:World} {big bg:Bool} {P:Ps St} {σ0 σ bB:aH} {q b i k:Nat} {m:Fk} {d:St} {w1 fT w2 W:World} {y:E.β} {v v':Value} {acc:List α} {cs:Array Value}
end
def AK:Obj:=.cells #[.int .u8 0,.string ⟨#[]⟩,.slice none 0 0,.string ⟨#[]⟩,.int .i64 0,.string ⟨#[]⟩,.int .i64 0,.slice none 0 0,.string ⟨#[]⟩,.bool false,.slice none 0 0,.slice none 0 0,.slice none 0 0,.slice none 0 0,.slice none 0 0,.int .u8 0,.string ⟨#[]⟩,.int .i64 0,.int .i64 0,.slice none 0 0,.slice none 0 0,.slice none 0 0,.int .u8 0,.int .i64 0,.string ⟨#[]⟩,.int .u8 0,.int .i64 0,.string ⟨#[]⟩] 89
theorem kA {P:Program} {ops:Array Oper} {rest:List Oper} {o:Oper} {a:Act} {w:World} {Q:Exit→Act→World→Prop}(hg:o.guard=none)(t:TypeId)(parts:Array (Nat×Operand))(ho:o.op=.build t parts) {cs:Array Value}
  (hv:P.built t (parts.map fun(i,x)=>(i,a.eval x)).toList=some cs) (h:wpList P ops Q rest (a.put o.dst (.agg cs)) w):wpList P ops Q (o::rest) a w:=
 wpList_build hg t parts ho (by rw[hv];rfl) (by rw[hv];exact h)
theorem PA (qy:BV):Tryz.prog.built 89 [(0,.int .u8 8),(7,VS qy)]=some (mo { kind:=8,query:=qy }).toArray:=by kernel_rfl
set_option maxHeartbeats 4000000
set_option maxRecDepth 100000
theorem Hk (ρ:cB)(w:World)(t:Wd)(r:fN)(big:Bool)(h:ρ.at w (.good (t::r)) big)(hk:t.k=1)(hs:t.s=dp):
  Calls Tryz.prog 73 #[ρ.ptr] w (Pz ρ w big cM (.good (t::r))):=by
 have dh:=h.rP;obtain⟨tk,pl,bd,hpl,hlt,hsm,mE,bh,hg,yM,rQ,hp⟩:=h.nQ;obtain⟨r',jl⟩:=hg (t::r) rfl;injection jl with yK Ss;have hb:=ae.then (aa w AK) (aa _ AK)
 have h0:=h.later hb;have C4:=hp.later hb;have LV:=(ag.new w 89 rS).alloc AK;have Pt:=ag.new (w.alloc AK) 89 rS;rw[World.size_alloc] at Pt;have HL:=hid Pt;have HQ:=hid LV;have HH:=hid h;have HP:=hid C4;have wu:(aH.good (t::r)).head (⟨#[115,101,108,101,99,116]⟩:ByteArray).data.toList=true:=by have e:(aH.good (t::r)).head (⟨#[115,101,108,101,99,116]⟩:ByteArray).data.toList=((t.k==1 || t.k==4)&& t.s==dp):=rfl;simp[e,hk,hs]
 have WA:=hid wu;clear Pt LV h hp C4 hg bh mE wu hpl;rw[show Obj.cells rS 89=AK from rfl] at HQ HL;unfold AK at*;clear Ss;go_enter Tryz.func73,Tryz.ntmps73;go_wp2_with fail;refine(jE ρ _ _ big h0 ⟨#[115,101,108,101,99,116]⟩).mono ?_;rintro e w1 ⟨rfl,b1⟩;rw[WA.out];have hb1:=ae.then hb b1
 have Fi:=hid (HQ.out.later b1);clear HL HQ HP h0 b1 hb yK;go_wp2_with fail;refine(Hj ρ _ _ big (HH.out.later hb1)).mono ?_;rintro e w3 ⟨qd,qy,rfl,hqd,d3,hgq⟩;have hq:=d3.blk Fi.out (by omega);have HQ:=hid hq;have HD:=hid ((dH.bP HH.out hb1).trans d3);have HS:=hid hqd;have HG:=hid hgq;have B9:w.heap.size+1≤w1.heap.size:=Fi.out.lt;clear hq d3 hqd hgq Fi HH;go_wp2_with (first
  |(refine kA rfl 89 _ rfl (cs:=(mo { kind:=8,query:=qy }).toArray) ?hv ?_;rotate_left)
  |(refine wpList_store_row rfl 89 (.tmp 2) (.tmp 8) rfl w.heap.size (mo { kind:=8,query:=qy }).toArray rfl rfl 89 rS HQ.out (by rw[kR];exact gW) rfl (uy _) ?_
    have HR:=hid (HQ.out.row (mo { kind:=8,query:=qy }).toArray)
    have HF:=hid (HD.out.row dh (Nat.le_refl _) (mo { kind:=8,query:=qy }).toArray)
    have GH:=hid (Qu.at_.keep (eY (show w.heap.size≤w.heap.size+1 by omega)) (Qu.at_.keep (Cj w3 (show w.heap.size < w.heap.size+1 by omega) (mo { kind:=8,query:=qy }).toArray) (Qu.at_.keep (eY B9) HS.out)))))
 case hv=>exact PA qy
 have HT:=(LL (r:=r) hk hs).go (p:=lD) (f:=fun query=>(pure { kind:=8,query:=query }:Ps St)) HG.out;refine bodyPost_ret (v:=OO { kind:=8,query:=qy }) (results_cell_row Tryz.results73 _ _ w.heap.size 89 (mo { kind:=8,query:=qy }).toArray (0,0) _ rfl HR.out Tryz.underlying89 rfl (by rw[kR];exact gW)) rfl ⟨{ kind:=8,query:=qd },{ kind:=8,query:=qy },rfl,{ St.uw _ _ with kind:=rfl,query:=GH.out },?_,HT.done.2⟩;rw[HT.done.1];have:=HF.out;rw[show(big || qd.long)=(big || St.long { kind:=8,query:=qd }) by simp[St.long]] at this;exact this
end Go.Proofs.YtfmbcoeallmnnaaGreatDoor.R
namespace Go.Proofs.YtfmbcoeallmnnaaGreatDoor
open Go.Lib (hid)
open Go.ChangeShapes Go.WideShapes Go.ChangeAt Go.RowKit
set_option linter.unusedVariables false
set_option linter.unusedSimpArgs false
def AL (v:R.Val):Val:=⟨v.k,v.n,v.s⟩
mutual
def Hl:R.Tr→Tr
 | .mk op v name width args=> .mk op (AL v) name width (gJ args)
def gJ:List R.Tr→List Tr
 | []=> []
 | t::ts=>Hl t::gJ ts
end
def Hm (y:R.Ex):Ex:=⟨y.op,AL y.v,y.name,y.width,y.A,y.n,y.c⟩
theorem nY:∀ts:List R.Tr,(gJ ts).length=ts.length
 | []=>by simp[gJ]
 | t::ts=>by simp[gJ,nY ts]
theorem Uf {w:World} {S:Nat→Prop} {A:Option Addr} {ys:List R.Ex}(h:R.RL R.cW 7 w S A ys):PV w S A (ys.map Hm):=by
 rcases h with rfl |⟨b,off,h1,h2,h3⟩
 ·exact .inl rfl
 ·refine .inr ⟨b,off,h1,h2,fun i x hx=>?_⟩;rw[List.getElem?_map] at hx;cases hy:ys[i]? with
  | none=>rw[hy] at hx;cases hx
  | some y=>rw[hy] at hx;injection hx with hx;subst hx;have k:=h3 i y;exact⟨k 0 _ hy rfl,k 1 _ hy rfl,k 2 _ hy rfl,k 3 _ hy rfl,k 4 _ hy rfl,k 5 _ hy rfl,k 6 _ hy rfl⟩
mutual
theorem Su {w:World} {S:Nat→Prop}:∀(t:R.Tr) (y:R.Ex),t.at_ w S y→(Hl t).at_ w S (Hm y)
 | .mk op v name width args,y,h=>by unfold R.Tr.at_ at h;obtain⟨h1,h2,h3,h4,h5,ys,h6,h7⟩:=h;unfold Hl Tr.at_;exact⟨h1,by rw[← h2];rfl,h3,h4,by rw[nY];exact h5,ys.map Hm,Uf h6,uB args ys h7⟩
theorem uB {w:World} {S:Nat→Prop}:∀(ts:List R.Tr) (ys:List R.Ex),R.Tr.bJ w S ts ys→Tr.bJ w S (gJ ts) (ys.map Hm)
 | [],ys,h=>by unfold R.Tr.bJ at h;subst h;unfold gJ Tr.bJ;rfl
 | t::ts,ys,h=>by unfold R.Tr.bJ at h;obtain⟨y,ys',rfl,h1,h2⟩:=h;unfold gJ Tr.bJ;exact⟨Hm y,ys'.map Hm,rfl,Su t y h1,uB ts ys' h2⟩
end
theorem EU {w:World} {S:Nat→Prop}:∀ {ts:List R.Tr} {ys:List R.Ex},R.jC (R.Tr.at_ w S) ts ys→R.Tr.bJ w S ts ys
 | _,_,.nil=>by unfold R.Tr.bJ;rfl
 | _,_,.cons h k=>by unfold R.Tr.bJ;exact⟨_,_,rfl,h,EU k⟩
theorem PB {w:World} {S:Nat→Prop} {A:Option Addr} {n:Nat} {l:List R.Tr}(h:R.nh.lies w S A n l):n=(gJ l).length∧∃ys,PV w S A ys∧Tr.bJ w S (gJ l) ys:=by obtain⟨h1,ys,h2,h3⟩:=h;exact⟨by rw[nY];exact h1,ys.map Hm,Uf h2,uB l ys (EU h3)⟩
end Go.Proofs.YtfmbcoeallmnnaaGreatDoor
namespace Go.Proofs.YtfmbcoeallmnnaaGreatDoor.R
open Go.Lib (hid)
open Go.ChangeShapes Go.WideShapes Go.ChangeAt Go.RowKit
set_option linter.unusedVariables false
set_option linter.unusedSimpArgs false
set_option maxHeartbeats 4000000
set_option maxRecDepth 100000
theorem PC (s:ByteArray)(w:World)(hs:s.size≤4294967280) {l:List Tok}(hl:ru s.data.toList=.ok l) {t:Wd} {r:fN}(hb:af (may ry) (af cM (.good (l.map (·.w))))=.good (t::r))(hk:t.k=0)(hse:∀t0 r0,l=t0::r0→t0.w.k=1∧t0.w.s=dp):Calls Tryz.prog 51 #[.string s] w (qc s w):=by
 obtain⟨t0,r0,hl0⟩:=LA hl;obtain⟨_,hlen,hwd⟩:=Cc hl;have hne:l≠ []:=by rw[hl0];simp
 have hws:l.map (·.w)=t0.w::r0.map (·.w):=by rw[hl0];rfl
 have C7:=hse t0 r0 hl0;have HSE:=hid C7;clear hse C7;have HEN:=hid (Lz hl);have F3:=hid hwd;have HWS:=hid hws;clear hl0 hwd hws;have LV:=ag.new w 89 rS;rw[show Obj.cells rS 89=AK from rfl] at LV;have HQ:=hid LV;clear LV;unfold AK at*;go_enter Tryz.func51,Tryz.ntmps51;go_wp2_with fail;refine(Si hl hs).mono ?_;rintro e w1 ⟨A,c,rfl,ht,b1⟩;obtain⟨gl,rfl,hgb,H0,hc⟩:=ht.cells hne;have Fi:=hid (HQ.out.later b1);have HB:=hid (ae.then (aa w _) b1);have hR:=cB.start (c:=c) H0 hc HEN.out hlen F3.out;rw[HWS.out] at hR;have HR:=hid hR;have RF:w.heap.size < w1.heap.size:=Fi.out.lt;clear ht hc b1 HQ hR hgb hne;go_wp2_with fail;refine(Hk ⟨w1.heap.size,gl,c,l⟩ _ t0.w (r0.map (·.w)) false HR.out HSE.out.1 HSE.out.2).mono ?_;rintro e w2 ⟨d,y,rfl,hat,dd,fP⟩;rw[← HWS.out] at dd fP;have HW:=hid (OZ fP);rw[show(w1.alloc _).heap.size=w1.heap.size+1 by simp] at hat;have bo:w1.heap.size <(w1.alloc (.cells #[.slice (some ⟨gl,0,none⟩) l.length c,.int .i64 0,.int .i64 (-1),.bool false] 112)).heap.size:=by simp
 have oh:=dd.blk (Fi.out.alloc _) (by show w.heap.size≠w1.heap.size;omega);have hs2:w1.heap.size+1≤w2.heap.size:=by have:=dd.size;simpa using this
 have I0:=hid ((dd.later (aa w2 AK)).row bo (by rw[show(w1.alloc _).heap.size=w1.heap.size+1 by simp];exact hs2) (mo y).toArray);have V0:=hid ((ag.new w2 89 rS).row (mo y).toArray);have gU:=hid ((oh.alloc AK).Sr (q:=w2.heap.size) (by omega) (mo y).toArray);have C8:=hid (St.at_.keep (ET w2 AK (mo y).toArray) hat);have HS3:=hid (show w2.heap.size <((w2.alloc AK).setRow w2.heap.size (mo y).toArray).heap.size by rw[size_setRow];simp);have Xn:=hid (show Below w.heap.size w (w1.alloc (.cells #[.slice (some ⟨gl,0,none⟩) l.length c,.int .i64 0,.int .i64 (-1),.bool false] 112))from ae.then HB.out (aa w1 _));rw[Bool.false_or] at I0;clear dd hat oh Fi HR HB fP;rw[show(Obj.cells rS 89)=AK from rfl] at V0;unfold AK at*;go_wp2_with (first
  |(refine wpList_store_row rfl 89 (.tmp 9) (.tmp 27) rfl w2.heap.size (mo y).toArray rfl rfl 89 rS (ag.new w2 89 rS) (by rw[kR];exact gW) rfl (uy _) ?_))
 generalize ((w2.alloc _).setRow _ _)=W3 at*;refine(df ⟨w1.heap.size,gl,c,l⟩ _ _ _ I0.out.at_ ⟨#[59]⟩).mono ?_;rintro e w4 ⟨rfl,d4⟩;rw[show(⟨#[59]⟩:ByteArray).data.toList=ry from rfl,hb] at d4;have Md:=hid (I0.out.trans d4);have Jn:=hid (d4.blk gU.out (by show w.heap.size≠w1.heap.size;omega));have V1:=hid (d4.blk V0.out (by show w2.heap.size≠w1.heap.size;omega));have WB:=hid (St.at_.keep (dZ d4.grown (show w1.heap.size < w1.heap.size+1 by omega)) C8.out);clear d4 I0 gU V0 C8;have hE:af rA (.good (l.map (·.w)))=.good (t::r):=by rw[HW.out.1,hb,LB,if_pos hk]
 have aZ:=Hc hE HW.out.2;have V2:=hid (Hd hl aZ);have C2:=hid (Pa (n:=4097) (by simpa using hlen) aZ);have C9:=hid (Xn.out.trans (uW Md.out.grown Xn.out.size (by show w.heap.size≤w1.heap.size;omega)));clear hE aZ;obtain⟨tk,pl,bd,hpl,D4,hsm,mE,bh,hg,yM,rQ,hp⟩:=Md.out.at_.nQ;obtain⟨r',jl⟩:=hg _ rfl;injection jl with yK _;rw[yK] at hk;obtain rfl:bd= -1:=mE;obtain⟨c0,c1,c2,k0,k1,k2,k3⟩:=hp;simp only at c0 c1 c2 k0 k1 k2 k3;have D4:pl < l.length:=D4;have adW:(pl:Int)< l.length:=by omega
 clear hg bh hpl yK;rw[hk] at k0;have c3:=Md.out.at_.facts.2.2.2.1;simp only at c3;clear Md HW hb hl;cases Oy:d.long
 ·rw[Oy] at c3;have I1:=hid Oy;have V3:=hid (LC C2.out Oy);clear Oy;go_wp2_with (first
   |(refine wpList_load_row rfl 89 (.tmp 9) rfl w2.heap.size rfl 89 (mo y).toArray (0,0) _ V1.out Tryz.underlying89 rfl (by rw[kR];exact gW) ?_))
  clear c0 c1 c2 c3 k0 k1 k2 k3;refine(EK w4 d y (gK (w1.heap.size+1) w4) (fun b hb=>hb.2) WB.out V3.out.1 V3.out.2).mono ?_;rintro e w5 ⟨sl,rfl,hn,kG,b5⟩;obtain⟨_,ys,lX,hall⟩:=kG;have HQ5:=hid (Jn.out.later b5);have HY5:=hid (V1.out.later b5);have V5:=hid (St.at_.keep (fC b5) WB.out);have HB5:=hid (ae.then C9.out b5);have D5:=hid lX;have RB:=hid hall;have D7:=hid hn;have G6:=V3.out.1;rw[← D7.out] at G6;clear b5 lX hall hn Jn V1 WB C9;obtain⟨sA,sn,sc⟩:=sl;unfold kn;simp only at G6 D5 D7;go_wp2_with fail;go_loopw [11] (fun u wr=>∃i:Nat,i≤sn∧u=.int .i64 i∧(∀x∈d.exprs.take i,x.depth≤32)∧Below w5.heap.size w5 wr) (fun u _=>sn - (intOf u).toNat);case atStart=>exact⟨0,Nat.zero_le _,rfl,(fun x hx=>by simp at hx),Below.refl _ _⟩
  case round=>
   obtain⟨i,hi,rfl,Ri,mD⟩:=hrel;have HSH:=hid Ri;have jx:=hid mD;have V6:=hid (HQ5.out.later mD);have HYr:=hid (HY5.out.later mD);clear Ri;by_cases hlt:i < sn
   ·obtain⟨x,hx⟩:∃x,d.exprs[i]?=some x:=⟨_,List.getElem?_eq_getElem (by have:=D7.out;omega)⟩;obtain⟨yx,Bo⟩:∃yx,ys[i]?=some yx:=⟨_,List.getElem?_eq_getElem (by have h1:=RB.out.len;have h2:=D7.out;omega)⟩;have D8:x.at_ w5 (gK 0 w5) yx:=pD RB.out hx Bo;have vw:=C2.out.1 x (List.mem_of_getElem? hx);have Tz:=hid (Tr.ZP (w:=w5) (S:=gK 0 w5) (fun b hb=>hb.2) x yx D8 vw.1 (by have:=vw.2;omega) wr mD);rcases D5.out with h0 |⟨b,off,Er,OP,hcell⟩
    ·subst h0;simp at Bo
    have hcell:=fun j u hu=>(mD.cell (p:=⟨b,off+i*7+j,none⟩) OP.2).trans (hcell i yx j u Bo hu)
    have q0:=hcell 0 _ rfl;have q1:=hcell 1 _ rfl;have q2:=hcell 2 _ rfl;have q3:=hcell 3 _ rfl;have q4:=hcell 4 _ rfl;have q5:=hcell 5 _ rfl;have q6:=hcell 6 _ rfl;simp only[Nat.add_zero] at q0;have HX:=hid hx;have Mw:=vw.2;clear hcell hx Bo D8 vw;subst Er;go_wp2_with fail;clear q0 q1 q2 q3 q4 q5 q6;refine Tz.out.mono ?_;rintro e w6 ⟨rfl,b6⟩;by_cases hdp:x.depth≤32
    ·have XH:¬((x.depth:Int)> 32):=by omega
     go_wp2_with fail;go_roundw;case rel=>exact⟨i+1,by omega,by go_num,LD HX.out HSH.out hdp,jx.out.trans (b6.mono jx.out.size)⟩
     case measure=>simp[intOf];omega
    ·have XH:((x.depth:Int)> 32):=by omega
     have rG:=hid (V6.out.later b6);have HB6:=hid (ae.then (ae.then HB5.out jx.out) b6);have HDY:=hid (Pb (List.mem_of_getElem? HX.out) (by omega:32 < x.depth));clear b6;go_wp2_with (first
      |(refine kA rfl 89 _ rfl (cs:=rS) ?hv ?_;rotate_left)
      |(refine wpList_store_row rfl 89 (.tmp 2) (.tmp 81) rfl w.heap.size rS rfl rfl 89 rS rG.out (by rw[show rS.size=28 from rfl];exact gW) rfl (uy {}) ?_
        rw[vh rG.out]))
     case hv=>exact Jt
     refine bodyPost_ret (v:=.tuple #[OO {},.int .i64 0,.int .i64 32]) (nX Tryz.results51 _ _ w.heap.size 89 rS (0,0) _ (.int .i64 0) (.int .i64 32) rfl rG.out Tryz.underlying89 rfl (by rw[show Array.size rS=28 from rfl];exact gW) rfl rfl) rfl ?_;unfold qc;rw[V2.out,if_neg (by rw[I1.out];simp),if_pos HDY.out];exact⟨rfl,HB6.out⟩
   ·obtain rfl:i=sn:=by omega
    have hdn:=Sd (l:=d.exprs) (by have:=HSH.out;rwa [List.take_of_length_le (by have:=D7.out;omega)] at this);have Qh:=hid hdn;clear hdn;have V7:=hid (St.at_.keep (fC mD) V5.out);have HBr:=hid (ae.then HB5.out mD);clear mD;go_wp2_with (first
     |(refine wpList_load_row rfl 89 (.tmp 9) rfl w2.heap.size rfl 89 (mo y).toArray (0,0) _ HYr.out Tryz.underlying89 rfl (by rw[kR];exact gW) ?_)
     |(refine wpList_store_row rfl 89 (.tmp 2) (.tmp 82) rfl w.heap.size (mo y).toArray rfl rfl 89 rS V6.out (by rw[kR];exact gW) rfl (uy _) ?_
       have QJ:=hid (V6.out.row (mo y).toArray)
       have HS9:=hid (show d.at_ (wr.setRow w.heap.size (mo y).toArray) (gK w.heap.size (wr.setRow w.heap.size (mo y).toArray)) y from St.at_.keep (eY (show w.heap.size≤w1.heap.size+1 by omega)) (St.at_.keep (Cj wr (show w.heap.size < w1.heap.size+1 by omega) (mo y).toArray) V7.out))
       have HB9:=hid (HBr.out.trans (uW (AJ wr w.heap.size (mo y).toArray) HBr.out.size (Nat.le_refl _)))))
    refine bodyPost_ret (v:=.tuple #[OO y,.int .i64 0,.int .i64 0]) (nX Tryz.results51 _ _ w.heap.size 89 (mo y).toArray (0,0) _ (.int .i64 0) (.int .i64 0) rfl QJ.out Tryz.underlying89 rfl (by rw[show Array.size (mo y).toArray=28 from rfl];exact gW) rfl rfl) rfl ?_;unfold qc;rw[V2.out,if_neg (by rw[I1.out];simp),if_neg (by rw[Qh.out];simp)];exact⟨y,rfl,HS9.out,HB9.out⟩
 ·rw[Oy] at c3;have I1:=hid Oy;clear Oy;go_wp2_with (first
   |(refine kA rfl 89 _ rfl (cs:=rS) ?hv ?_;rotate_left)
   |(refine wpList_store_row rfl 89 (.tmp 2) (.tmp 66) rfl w.heap.size rS rfl rfl 89 rS Jn.out (by rw[show rS.size=28 from rfl];exact gW) rfl (uy {}) ?_
     rw[vh Jn.out]))
  case hv=>exact Jt
  refine bodyPost_ret (v:=.tuple #[OO {},.int .i64 0,.int .i64 2]) (nX Tryz.results51 _ _ w.heap.size 89 rS (0,0) _ (.int .i64 0) (.int .i64 2) rfl Jn.out Tryz.underlying89 rfl (by rw[show Array.size rS=28 from rfl];exact gW) rfl rfl) rfl ?_;unfold qc;rw[V2.out,if_pos I1.out];exact⟨rfl,C9.out⟩
def vo (s:ByteArray):Bool:=match ru s.data.toList with
 | .ok l=>(match l with | t0::_=>t0.w.k==1 && t0.w.s==dp | []=>false)&&(match af (may ry) (af cM (.good (l.map (·.w))))with | .good (t::r)=>t.k==0 | _=>false)
 | _=>false
theorem EW (s:ByteArray)(w:World)(hs:s.size≤4294967280)(h:vo s=true):Calls Tryz.prog 51 #[.string s] w (qc s w):=by
 unfold vo at h;cases hl:ru s.data.toList with
 | error x=>rw[hl] at h;cases h
 | ok l=>
   rw[hl] at h;simp only[Bool.and_eq_true] at h;obtain⟨h1,h2⟩:=h;cases hb:af (may ry) (af cM (.good (l.map (·.w))))with
   | bad n=>rw[hb] at h2;cases h2
   | good m=>
     rw[hb] at h2
     match m,h2,hb with
     | t::r,h2,hb=>
       refine PC s w hs hl hb (by simpa using h2) fun t0 r0 e=>?_
       subst e;simpa using h1
end Go.Proofs.YtfmbcoeallmnnaaGreatDoor.R
namespace Go.Proofs.YtfmbcoeallmnnaaGreatDoor
open Go.Lib (hid)
open Go.ChangeShapes Go.WideShapes Go.ChangeAt Go.RowKit
set_option linter.unusedVariables false
set_option linter.unusedSimpArgs false
theorem yG (m:R.Fk):(R.mo m).toArray.size=28:=by simp[R.mo,R.yN,R.Ln]
theorem Sv (m:R.Fk):(R.mo m).toArray.all (·.oneCell')=true:=by simp[R.mo,R.yN,R.kn,R.Ln,Value.oneCell']
theorem PD:(Tryz.prog.info? 89).map (·.size)=some 28:=by kernel_rfl
def WC:Array Value:=(R.mo {}).toArray
theorem PE (m:R.BV):(R.yN m).toArray.size=8:=by simp[R.yN]
theorem PF:(Tryz.prog.info? 59).map (·.size)=some 8:=by kernel_rfl
def Sw:Array Value:=(R.yN {}).toArray
def qu:ByteArray:=⟨#[115,101,108,101,99,116,32]⟩
def PG (d:R.St)(w:World)(e:Ending)(w':World):Prop:=∃y:R.BV,e=.returned (R.VS y)∧d.query.at_ w' (Old w') y∧Below w.heap.size w w'
set_option maxHeartbeats 4000000
set_option maxRecDepth 100000
theorem PH (s:ByteArray)(d:R.St)(hs:(qu++s).size≤4294967280)(hd:R.nM (qu++s).data.toList=.ok d)(hq:R.vo (qu++s)=true)(w:World):Calls Tryz.prog 26 #[.string s] w (PG d w):=by
 have HD:=hid hd;have HZ:=ag.new w 59 Sw;have hB:=aa w (.cells Sw 59);clear hd;go_enter Tryz.func26,Tryz.ntmps26;go_upto_region 1 with fail
 change Code.wp _ _ _ _ (w.alloc (.cells Sw 59));generalize w.alloc _=W at*;obtain⟨gz,kJ⟩:∃gz,gz=w.heap.size:=⟨_,rfl⟩;rw[← kJ] at HZ ⊢;have hz:w.heap.size≤gz:=by omega
 have ZE:=HZ.lt;clear kJ;have hz1:¬9223372036854775807 < 7+s.size:=by have h:=hs;rw[ByteArray.size_append] at h;have:qu.size=7:=rfl;omega
 have HP:=hid (R.EW (qu++s) W hs hq);go_wp2_with fail;refine HP.out.mono ?_;rintro e w1 h;unfold R.qc at h;rw[HD.out] at h;obtain⟨y,rfl,hat,b1⟩:=h;have qM:=hid hat;replace HZ:=HZ.later b1;replace hB:=ae.then hB b1
 clear hat HP;obtain⟨cs,hcs⟩:∃cs,cs=(R.mo y).toArray:=⟨_,rfl⟩;have TB:=hid (show(Tryz.prog.info? 89).map (·.size)=some cs.size by rw[hcs,yG];exact PD);have D9:=hid (show WC.size=cs.size by rw[hcs,yG];exact yG _);have HON:=hid (show cs.all (·.oneCell')=true by rw[hcs];exact Sv _);have Ug:=hid hcs;unfold R.OO;rw[← hcs];clear hcs b1 hz1;have bn:=aa w1 (.cells cs 89);have H3:=ag.new w1 89 cs;have kJ:=HZ.lt;go_upto_region 2 with (first
  |(refine wpList_store_row rfl 89 (.tmp 3) (.tmp 10) rfl w1.heap.size cs rfl rfl 89 WC (ag.new w1 89 WC) TB.out D9.out HON.out ?_
    rw[World.setRow_alloc_new]))
 change Code.wp _ _ _ _ (w1.alloc (.cells cs 89));have V8:=hid (R.St.at_.keep (R.fC bn) qM.out);replace HZ:=HZ.later bn;replace hB:=ae.then hB bn
 have l3:w.heap.size≤w1.heap.size:=by omega
 clear bn TB D9 HON qM;generalize w1.alloc _=W2 at*;generalize w1.heap.size=g3 at*;have c0:W2.cell? ⟨g3,7,none⟩=some (R.kn y.query.items):=(H3.cell 7).trans (by rw[Ug.out];rfl);have c1:W2.cell? ⟨g3,8,none⟩=some (.string y.query.cy):=(H3.cell 8).trans (by rw[Ug.out];rfl);have c2:W2.cell? ⟨g3,9,none⟩=some (.bool y.query.only):=(H3.cell 9).trans (by rw[Ug.out];rfl);have c3:W2.cell? ⟨g3,10,none⟩=some (R.kn y.query.cf):=(H3.cell 10).trans (by rw[Ug.out];rfl);have c4:W2.cell? ⟨g3,11,none⟩=some (R.kn y.query.group):=(H3.cell 11).trans (by rw[Ug.out];rfl);have c5:W2.cell? ⟨g3,12,none⟩=some (R.kn y.query.having):=(H3.cell 12).trans (by rw[Ug.out];rfl);have c6:W2.cell? ⟨g3,13,none⟩=some (R.kn y.query.order):=(H3.cell 13).trans (by rw[Ug.out];rfl);have c7:W2.cell? ⟨g3,14,none⟩=some (R.kn y.query.bU):=(H3.cell 14).trans (by rw[Ug.out];rfl);unfold R.kn at c0 c3 c4 c5 c6 c7;have Ff:=HZ.frozen;have z:∀j u,Sw[j]?=some u→W2.cell? ⟨gz,j,none⟩=some u:=fun j u h=>(HZ.cell j).trans h
 have z0:=z 0 _ rfl;have z1:=z 1 _ rfl;have z2:=z 2 _ rfl;have z3:=z 3 _ rfl;have z4:=z 4 _ rfl;have z5:=z 5 _ rfl;have z6:=z 6 _ rfl;have z7:=z 7 _ rfl;have HR0:=((((((((HZ.cA 0 (.slice y.query.items.A y.query.items.n y.query.items.c)).cA 1 (.string y.query.cy)).cA 2 (.bool y.query.only)).cA 3 (.slice y.query.cf.A y.query.cf.n y.query.cf.c)).cA 4 (.slice y.query.group.A y.query.group.n y.query.group.c)).cA 5 (.slice y.query.having.A y.query.having.n y.query.having.c)).cA 6 (.slice y.query.order.A y.query.order.n y.query.order.c)).cA 7 (.slice y.query.bU.A y.query.bU.n y.query.bU.c));have YR:=hid (dc (dc (dc (dc (dc (dc (dc (dc (sK (p:=gz) (Below.refl W2.heap.size W2)) 0 (.slice y.query.items.A y.query.items.n y.query.items.c)) 1 (.string y.query.cy)) 2 (.bool y.query.only)) 3 (.slice y.query.cf.A y.query.cf.n y.query.cf.c)) 4 (.slice y.query.group.A y.query.group.n y.query.group.c)) 5 (.slice y.query.having.A y.query.having.n y.query.having.c)) 6 (.slice y.query.order.A y.query.order.n y.query.order.c)) 7 (.slice y.query.bU.A y.query.bU.n y.query.bU.c));have C9:=hid ((((((((hB.setCell (p:=⟨gz,0,none⟩) hz (.slice y.query.items.A y.query.items.n y.query.items.c)).setCell (p:=⟨gz,1,none⟩) hz (.string y.query.cy)).setCell (p:=⟨gz,2,none⟩) hz (.bool y.query.only)).setCell (p:=⟨gz,3,none⟩) hz (.slice y.query.cf.A y.query.cf.n y.query.cf.c)).setCell (p:=⟨gz,4,none⟩) hz (.slice y.query.group.A y.query.group.n y.query.group.c)).setCell (p:=⟨gz,5,none⟩) hz (.slice y.query.having.A y.query.having.n y.query.having.c)).setCell (p:=⟨gz,6,none⟩) hz (.slice y.query.order.A y.query.order.n y.query.order.c)).setCell (p:=⟨gz,7,none⟩) hz (.slice y.query.bU.A y.query.bU.n y.query.bU.c));have HR:=hid (show ag _ gz 59 (R.yN y.query).toArray from HR0);clear z HZ hB HR0 H3;go_wp2_with fail;have HQ:=R.Qu.at_.keep (fun b hb=>((R.dZ YR.out ZE) b hb).imp id fun h=>h.2) V8.out.query;exact bodyPost_ret (v:=R.VS y.query) (results_cell_row Tryz.results26 _ _ gz 59 (R.yN y.query).toArray (0,0) _ rfl HR.out Tryz.underlying59 rfl (by rw[PE];exact PF)) rfl ⟨y.query,rfl,HQ,C9.out⟩
def uC:ByteArray:=⟨#[97,32,102,114,111,109,32,116,32,119,104,101,114,101,32]⟩
theorem PI (a b c d e f g h:Value)(w:World):(Instr.field 59 (.agg #[a,b,c,d,e,f,g,h]) 3).run Tryz.prog w=.ok d w:=by kernel_rfl
def LM (d:R.St)(w:World)(e:Ending)(w':World):Prop:=∃A n c,e=.returned (.slice A n c)∧jo w' (gJ d.query.cf) A n∧Below w.heap.size w w'
theorem qf (s:ByteArray)(d:R.St)(hs:(qu++(uC++s)).size≤4294967280)(hd:R.nM (qu++(uC++s)).data.toList=.ok d)(hq:R.vo (qu++(uC++s))=true)(w:World):Calls Tryz.prog 15 #[.string s] w (LM d w):=by
 have hz1:¬9223372036854775807 < 15+s.size:=by have h:=hs;rw[ByteArray.size_append,ByteArray.size_append] at h;have:uC.size=15:=rfl;omega
 have HP:=hid (PH (uC++s) d hs hd hq w);clear hd;go_enter Tryz.func15,Tryz.ntmps15;go_wp2_with fail;refine HP.out.mono ?_;rintro e w1 ⟨y,rfl,hat,b1⟩;have hl:=PB hat.cf;have HL:=hid hl;unfold R.VS R.yN R.kn;obtain⟨⟨iA,iN,iC⟩,cy,only,⟨wA,wn,wc⟩,⟨gA,gn,gc⟩,⟨hA,hn,hc⟩,⟨oA,on,oc⟩,⟨lA,ln,lc⟩⟩:=y;dsimp only at hl ⊢;clear hat hl HP;have hf:=PI;go_wp2_with fail;go_ret;exact⟨wA,wn,wc,rfl,⟨HL.out.1,HL.out.2⟩,b1⟩
def V9:ByteArray:=⟨#[100,32,61,32,39,120,39,32,97,110,100,32,118,32,61,32,49]⟩
def E0:R.St:= { kind:=8,query:= { items:=[(R.eF ⟨#[97]⟩,⟨#[]⟩)],cy:=⟨#[116]⟩,cf:=[R.gZ 16 [R.gZ 10 [R.eF ⟨#[100]⟩,R.iH ⟨3,0,⟨#[120]⟩⟩],R.gZ 10 [R.eF ⟨#[118]⟩,R.iH ⟨2,1,⟨#[]⟩⟩]]] } }
theorem Sx:R.nM (qu++(uC++V9)).data.toList=.ok E0:=by kernel_rfl
theorem Sy:R.vo (qu++(uC++V9))=true:=by kernel_rfl
theorem WD:Tr.iO (gJ E0.query.cf):=by simp[E0,gJ,Hl,Tr.iO,Tr.ok,Val.Ok,AL,R.gZ,R.eF,R.iH,R.fu]
def X0:ByteArray:=⟨#[100,32,61,32,39,120,39,32,111,114,32,100,32,61,32,39,121,39]⟩
def E1:R.St:= { kind:=8,query:= { items:=[(R.eF ⟨#[97]⟩,⟨#[]⟩)],cy:=⟨#[116]⟩,cf:=[R.gZ 17 [R.gZ 10 [R.eF ⟨#[100]⟩,R.iH ⟨3,0,⟨#[120]⟩⟩],R.gZ 10 [R.eF ⟨#[100]⟩,R.iH ⟨3,0,⟨#[121]⟩⟩]]] } }
theorem Sz:R.nM (qu++(uC++X0)).data.toList=.ok E1:=by kernel_rfl
theorem SA:R.vo (qu++(uC++X0))=true:=by kernel_rfl
theorem WE:Tr.iO (gJ E1.query.cf):=by simp[E1,gJ,Hl,Tr.iO,Tr.ok,Val.Ok,AL,R.gZ,R.eF,R.iH,R.fu]
def X5:ByteArray:=⟨#[116,105,109,101,32,62,61,32,51,32,97,110,100,32,116,105,109,101,32,60,32,57,32,97,110,100,32,118,32,61,32,49]⟩
def E2:R.St:= { kind:=8,query:= { items:=[(R.eF ⟨#[97]⟩,⟨#[]⟩)],cy:=⟨#[116]⟩,cf:=[R.gZ 16 [R.gZ 16 [R.gZ 15 [R.eF ⟨#[116,105,109,101]⟩,R.iH ⟨2,3,⟨#[]⟩⟩],R.gZ 12 [R.eF ⟨#[116,105,109,101]⟩,R.iH ⟨2,9,⟨#[]⟩⟩]],R.gZ 10 [R.eF ⟨#[118]⟩,R.iH ⟨2,1,⟨#[]⟩⟩]]] } }
theorem SB:R.nM (qu++(uC++X5)).data.toList=.ok E2:=by kernel_rfl
theorem SC:R.vo (qu++(uC++X5))=true:=by kernel_rfl
theorem WG:Tr.iO (gJ E2.query.cf):=by simp[E2,gJ,Hl,Tr.iO,Tr.ok,Val.Ok,AL,R.gZ,R.eF,R.iH,R.fu]
def X6:ByteArray:=⟨#[116,105,109,101,32,60,32,51,32,97,110,100,32,116,105,109,101,32,62,32,53]⟩
def E3:R.St:= { kind:=8,query:= { items:=[(R.eF ⟨#[97]⟩,⟨#[]⟩)],cy:=⟨#[116]⟩,cf:=[R.gZ 16 [R.gZ 12 [R.eF ⟨#[116,105,109,101]⟩,R.iH ⟨2,3,⟨#[]⟩⟩],R.gZ 14 [R.eF ⟨#[116,105,109,101]⟩,R.iH ⟨2,5,⟨#[]⟩⟩]]] } }
theorem SD:R.nM (qu++(uC++X6)).data.toList=.ok E3:=by kernel_rfl
theorem SE:R.vo (qu++(uC++X6))=true:=by kernel_rfl
theorem WH:Tr.iO (gJ E3.query.cf):=by simp[E3,gJ,Hl,Tr.iO,Tr.ok,Val.Ok,AL,R.gZ,R.eF,R.iH,R.fu]
def dB:ByteArray:=⟨#[100]⟩
def cO:ByteArray:=⟨#[116,105,109,101]⟩
theorem WI:fF (gJ E0.query.cf) dB=some ⟨3,0,⟨#[120]⟩⟩:=by kernel_rfl
theorem WJ:fF (gJ E1.query.cf) dB=none:=by kernel_rfl
theorem WK:eN (gJ E2.query.cf) cO=⟨3,9⟩:=by kernel_rfl
theorem WL:eN (gJ E3.query.cf) cO=⟨0,0⟩:=by kernel_rfl
theorem WM:eN [] cO=aY:=rfl
theorem ct (w:World)(hE:fQ w):Calls Tryz.prog 7 #[] w fun e w'=>e=.returned (.bool true)∧Below w.heap.size w w':=by
 have HE:=hid hE;have HB:=hid (Below.refl w.heap.size w);clear hE;go_enter Tryz.func7,Tryz.ntmps7;go_wp2_with fail;refine(qf V9 E0 (by decide) Sx Sy _).mono ?_;rintro e w1 ⟨A,n,c,rfl,hl,b1⟩;replace HE:=hid (HE.out.later b1);replace HB:=hid (ae.then HB.out b1);clear b1;have hv:=rr _ A n c dB w1 WD hl;rw[WI] at hv;unfold fy gO lp at hv;dsimp only at hv;have HV:=hid hv;clear hv hl;go_wp2_with fail;refine HV.out.mono ?_;rintro e w2 ⟨rfl,b1⟩;replace HE:=hid (HE.out.later b1);replace HB:=hid (ae.then HB.out b1);clear b1;clear HV;go_upto_region 2 with fail
 have H1:=ag.new w2 26 #[.int .u8 3,.int .i64 0,.string ⟨#[120]⟩];have b1:=aa w2 (.cells #[.int .u8 3,.int .i64 0,.string ⟨#[120]⟩] 26);replace HE:=hid (HE.out.later b1);replace HB:=hid (ae.then HB.out b1);clear b1;generalize w2.alloc _=W2 at*;generalize w2.heap.size=g1 at*;go_wp2_with fail;refine(qf X0 E1 (by decide) Sz SA _).mono ?_;rintro e w3 ⟨A,n,c,rfl,hl,b1⟩;replace HE:=hid (HE.out.later b1);replace HB:=hid (ae.then HB.out b1);replace H1:=H1.later b1;clear b1;have hv:=rr _ A n c dB w3 WE hl;rw[WJ] at hv;unfold fy gO at hv;rw[show lp none=ah from rfl] at hv;unfold ah at hv;dsimp only at hv;have HV:=hid hv;clear hv hl;go_wp2_with fail;refine HV.out.mono ?_;rintro e w4 ⟨rfl,b1⟩;replace HE:=hid (HE.out.later b1);replace HB:=hid (ae.then HB.out b1);replace H1:=H1.later b1;clear b1;clear HV;go_upto_region 3 with fail
 have b1:=aa w4 (.cells #[.int .u8 0,.int .i64 0,.string ByteArray.empty] 26);replace HE:=hid (HE.out.later b1);replace HB:=hid (ae.then HB.out b1);replace H1:=H1.later b1;clear b1;generalize w4.alloc _=W4 at*;go_wp2_with fail;refine(qf X5 E2 (by decide) SB SC _).mono ?_;rintro e w5 ⟨A,n,c,rfl,hl,b1⟩;replace HE:=hid (HE.out.later b1);replace HB:=hid (ae.then HB.out b1);replace H1:=H1.later b1;clear b1;have hv:=jy _ A n c cO w5 WG hl HE.out;rw[WK] at hv;unfold ej cC at hv;dsimp only at hv;have HV:=hid hv;clear hv hl;go_wp2_with fail;refine HV.out.mono ?_;rintro e w6 ⟨rfl,b1⟩;replace HE:=hid (HE.out.later b1);replace HB:=hid (ae.then HB.out b1);replace H1:=H1.later b1;clear b1;clear HV;go_wp2_with fail;refine(qf X6 E3 (by decide) SD SE _).mono ?_;rintro e w7 ⟨A,n,c,rfl,hl,b1⟩;replace HE:=hid (HE.out.later b1);replace HB:=hid (ae.then HB.out b1);replace H1:=H1.later b1;clear b1;have hv:=jy _ A n c cO w7 WH hl HE.out;rw[WL] at hv;unfold ej cC at hv;dsimp only at hv;have HV:=hid hv;clear hv hl;go_wp2_with fail;refine HV.out.mono ?_;rintro e w8 ⟨rfl,b1⟩;replace HE:=hid (HE.out.later b1);replace HB:=hid (ae.then HB.out b1);replace H1:=H1.later b1;clear b1;clear HV;have hv:=jy [] none 0 0 cO w8 (by unfold Tr.iO;trivial) ⟨rfl,[],.inl rfl,by unfold Tr.bJ;rfl⟩ HE.out;rw[WM] at hv;unfold ej cC aY dz bR at hv;dsimp only at hv;have HV:=hid hv;clear hv;go_wp2_with fail;refine HV.out.mono ?_;rintro e w9 ⟨rfl,b1⟩;replace HE:=hid (HE.out.later b1);replace HB:=hid (ae.then HB.out b1);replace H1:=H1.later b1;clear b1;clear HV;have X7:=H1.cell 0;have X8:=H1.cell 1;have X9:=H1.cell 2;simp only[List.getElem?_toArray,List.getElem?_cons_zero,List.getElem?_cons_succ] at X7 X8 X9;go_wp2_with fail;go_ret;exact⟨rfl,HB.out⟩
end Go.Proofs.YtfmbcoeallmnnaaGreatDoor
