/- Parts of the proof. -/
import Derived.Test.YtfmbcoeallmnnaaGreatDoorD35
namespace Go.Proofs.YtfmbcoeallmnnaaGreatDoor.R
open Go.Lib (hid)
open Go.ChangeShapes Go.WideShapes Go.ChangeAt Go.RowKit
set_option linter.unusedVariables false
set_option linter.unusedSimpArgs false
theorem AB:(Tryz.prog.info? 138).map (fun i=>(i.zero,i.size,i.bytes))=some (some (.agg #[.int .u8 0,.int .u8 0,.int .i64 0,.string ⟨#[]⟩,.string ⟨#[]⟩,.int .i64 0,.slice none 0 0,.string ⟨#[]⟩]),8,104):=by kernel_rfl
def EO {α:Type}(E:El α)(lng:α→Bool)(ρ:cB)(p:Ps α)(σ:aH)(big:Bool)(y:E.β)(w w':World):Prop:=∃x:α,E.rel w' (gK w.heap.size w') x y∧dH ρ w w' (af p σ) (big || lng x)∧au p σ x
theorem nW {α:Type} {E:El α} {T:TypeId} {lng:α→Bool} {ρ:cB} {p:Ps α} {σ:aH} {big:Bool} {w0 wr w1 fT w2 W:World} {B:Nat} {v v':Value} {acc:List α} {y:E.β}(hB:w0.heap.size≤B)(hg:ρ.g < w0.heap.size)(hR:fj E T wr B v acc)(hBr:B≤wr.heap.size)(hD:dH ρ w0 wr σ big)(dN:ae wr w1)(hp:EO E lng ρ p σ big y w1 fT)(hl2:ae fT w2)(bo:w2.grownBy W v.ownBlock)
  (ys:List E.β) (uZ:aQ E.f T E.size W B v' (ys++ [y])) (hys:jC (E.rel wr (nV B v wr)) acc ys) (hv:v'.ownBlock=v.ownBlock∨v'.ownBlock=some w2.heap.size):
  ∃x:α,fj E T W B v' (acc++ [x])∧dH ρ w0 W (af p σ) (big || lng x)∧au p σ x:=by
 obtain⟨x,hx,hd,fP⟩:=hp;have Mu:ρ.g < B:=by omega
 have own:∀G,v.ownBlock=some G→B≤G∧G < wr.heap.size:=fun G hG=>hR.uz hG
 refine⟨x,⟨ys++ [y],uZ,jC.append ?_ (.one ?_)⟩,?_,fP⟩
 ·exact hys.imp fun a b hab=>E.keep (np bo hv) (E.keep (gI hl2) (E.keep (jG hd.grown Mu) (E.keep (gI dN) hab)))
 ·refine E.keep (np bo hv) (E.keep (EM (B:=w1.heap.size) (B':=B) (Nat.le_trans hBr dN.size) fun G hG=>?_) (E.keep (fC hl2) hx));exact Nat.lt_of_lt_of_le (own G hG).2 dN.size
 ·exact(((hD.later dN).trans hd).later hl2).own hg bo fun G hG=>by have:=(own G hG).1;omega
theorem yC {B q:Nat} {v:Value} {w:World}(hq:q < B)(i:Nat)(u:Value):∀b,nV B v w b→(∀o,(w.setCell ⟨q,i,none⟩ u).cell? ⟨b,o,none⟩=w.cell? ⟨b,o,none⟩)∧nV B v (w.setCell ⟨q,i,none⟩ u) b:=fun b hb=>
 ⟨cell_of_heap (Below.heap_setCell w ⟨q,i,none⟩ u b (by have:=hb.1;simp;omega)),hb.1,by simpa [World.setCell] using hb.2.1,hb.2.2⟩
theorem fj.far {α:Type} {E:El α} {T:TypeId} {w:World} {B q:Nat} {v:Value} {l:List α}(h:fj E T w B v l)(hq:q < B)(i:Nat)(u:Value):fj E T (w.setCell ⟨q,i,none⟩ u) B v l:=by
 have AW:=fun G hG=>(h.uz (G:=G) hG).1
 obtain⟨ys,h1,h2⟩:=h.has;exact⟨ys,h1.keep fun g hg=>Below.heap_setCell w ⟨q,i,none⟩ u g (by have:=AW g hg;simp;omega),h2.imp fun x y=>E.keep (yC hq i u)⟩
set_option maxHeartbeats 1000000
set_option maxRecDepth 100000
theorem EP (ρ:cB)(w:World)(σ:aH)(big:Bool)(h:ρ.at w σ big)(s:ByteArray):
  Calls Tryz.prog 113 #[ρ.ptr,.string s] w fun e w'=>∃(l:List Tr) (y:Sl),e=.returned (kn y)∧nh.sl w' (gK w.heap.size w') y l∧dH ρ w w' (af (dI s.data.toList) σ) big∧au (dI s.data.toList) σ l:=by
 have hm:=df ρ w σ big h s;have dh:=h.rP;cases hh:σ.head s.data.toList
 ·rw[hh,aw hh] at hm;have HB:=hid (BU hh);clear hh;go_enter Tryz.func113,Tryz.ntmps113;go_wp2_with fail;refine hm.mono ?_;rintro e w1 ⟨rfl,d1⟩;go_wp2_with fail;go_ret;refine⟨[],Sl.nil,rfl,El.lO _ _ _,?_,HB.out.2⟩;rw[HB.out.1];exact d1
 ·rw[hh,aB hh] at hm;have HH:=hid hh;clear hh;go_enter Tryz.func113,Tryz.ntmps113;go_wp2_with fail;refine hm.mono ?_;rintro e w1 ⟨rfl,d1⟩;go_wp2_with fail;refine(uv ρ _ _ big d1.at_).mono ?_;rintro e w2 ⟨t,y,rfl,ht,d2,fP⟩;unfold ji cW;go_wp2_with fail;go_ret;have hb:=Eu HH.out fP;have hs:=d1.size;refine⟨[t],⟨some ⟨w2.heap.size,0,none⟩,1,1⟩,rfl,VU (ag.new w2 _ _) ⟨by have:=d2.size;omega,by simp⟩ ((ht.later (aa w2 _)).more hs),?_,hb.2⟩;rw[hb.1];exact(d1.trans d2).later (aa w2 (ky y))
def Wp:Obj:=.cells #[.slice none 0 0,.string ⟨#[]⟩,.bool false,.slice none 0 0,.slice none 0 0,.slice none 0 0,.slice none 0 0,.slice none 0 0] 59
structure vG (ρ:cB) (w:World) (big:Bool) (σ:aH) (k:Ps Qu) (wr:World) (bB:aH) (m:BV) (d:Qu):Prop where
 did:dH ρ w wr bB (big || d.long)
 blk:ag wr (w.heap.size+1) 59 (yN m).toArray
 res:ag wr w.heap.size 59 #[.slice none 0 0,.string ⟨#[]⟩,.bool false,.slice none 0 0,.slice none 0 0,.slice none 0 0,.slice none 0 0,.slice none 0 0]
 at_:d.at_ wr (gK (w.heap.size+2) wr) m
 todo:Qd (α:=Unit) σ k bB
def lQ (items:List (Tr×ByteArray)):Ps Qu:=do
 must nK
 let only ← may pg
 let cy ← bL
 let cf ← dI nL
 let group ← kr
 let having ← dI pj
 let order ← iB
 let bU ← jA
 return { items,cy,only,cf,group,having,order,bU }
theorem yD:(Tryz.prog.info? 140).map (fun i=>(i.zero,i.size,i.bytes))=some (some (.agg #[.int .u8 0,.int .u8 0,.int .i64 0,.string ⟨#[]⟩,.string ⟨#[]⟩,.int .i64 0,.slice none 0 0,.bool false]),8,96):=by kernel_rfl
structure yE (ρ:cB) (w:World) (bg:Bool) (σ:aH) (m:BV) (d:Qu) (k:Nat) (v:Value) (wr:World) (bB:aH) (acc:List (Tr×Bool)):Prop where
 pos:0 < acc.length
 few:acc.length+bB.left≤5001
 le:bB.left≤k
 row:fj jP 140 wr (w.heap.size+2) v acc
 did:dH ρ w wr bB (bg || decide (64 < acc.length - 1))
 blk:ag wr (w.heap.size+1) 59 #[kn m.items,.string m.cy,.bool m.only,kn m.cf,kn m.group,kn m.having,v,kn m.bU]
 res:ag wr w.heap.size 59 #[.slice none 0 0,.string ⟨#[]⟩,.bool false,.slice none 0 0,.slice none 0 0,.slice none 0 0,.slice none 0 0,.slice none 0 0]
 at_:Qu.at_ wr (nV (w.heap.size+2) v wr) d m
 todo:ez gB σ acc bB
def vH (w:World)(q:Nat)(m:BV):World:=(((((((w.setCell ⟨q,0,none⟩ (kn m.items)).setCell ⟨q,1,none⟩ (.string m.cy)).setCell ⟨q,2,none⟩ (.bool m.only)).setCell ⟨q,3,none⟩ (kn m.cf)).setCell ⟨q,4,none⟩ (kn m.group)).setCell ⟨q,5,none⟩ (kn m.having)).setCell ⟨q,6,none⟩ (kn m.order)).setCell ⟨q,7,none⟩ (kn m.bU)
theorem ER {w:World} {q:Nat} {T:TypeId} {a b c d e f g i:Value}(h:ag w q T #[a,b,c,d,e,f,g,i])(m:BV):ag (vH w q m) q T (yN m).toArray:=by have:=(((((((h.cA 0 (kn m.items)).cA 1 (.string m.cy)).cA 2 (.bool m.only)).cA 3 (kn m.cf)).cA 4 (kn m.group)).cA 5 (kn m.having)).cA 6 (kn m.order)).cA 7 (kn m.bU);simp only[List.setIfInBounds_toArray,List.set_cons_zero,List.set_cons_succ] at this;exact this
theorem dH.vH {ρ:cB} {W w:World} {σ:aH} {big:Bool} {q:Nat}(h:dH ρ W w σ big)(hW:ρ.g < W.heap.size)(hq:W.heap.size≤q)(m:BV):dH ρ W (vH w q m) σ big:=
 (((((((h.far hW hq 0 _).far hW hq 1 _).far hW hq 2 _).far hW hq 3 _).far hW hq 4 _).far hW hq 5 _).far hW hq 6 _).far hW hq 7 _
theorem Qu.at_.vH {B q:Nat} {w:World} {d:Qu} {m:BV}(h:d.at_ w (gK B w) m)(hq:q < B)(m':BV):d.at_ (vH w q m') (gK B (Go.Proofs.YtfmbcoeallmnnaaGreatDoor.R.vH w q m')) m:=by
 have s:=fun(w:World) (h:d.at_ w (gK B w) m) (i:Nat) (u:Value)=>Qu.at_.keep (kN (w:=w) hq i u) h
 exact s _ (s _ (s _ (s _ (s _ (s _ (s _ (s _ h 0 _) 1 _) 2 _) 3 _) 4 _) 5 _) 6 _) 7 _
theorem Sm {w:World} {S:Nat→Prop} {G:Nat} {k:Int}(h:ag w G 2 #[.int .i64 k])(hS:S G):NN.sl w S ⟨some ⟨G,0,none⟩,1,1⟩ [k]:=
 ⟨rfl,[k],BI (f:=fun k:Int=> [Value.int .i64 k]) (fun _=>rfl) h hS,.one rfl⟩
def uA (items:List (Tr×ByteArray))(only:Bool)(cy:ByteArray)(cf group having:List Tr)(order:List (Tr×Bool)):Ps Qu:=do
 let bU ← jA
 return { items,cy,only,cf,group,having,order,bU }
def Pp (items:List (Tr×ByteArray))(only:Bool)(cy:ByteArray)(cf group having:List Tr):Ps Qu:=do
 let order ← iB
 uA items only cy cf group having order
def tD (items:List (Tr×ByteArray))(only:Bool)(cy:ByteArray)(cf group:List Tr):Ps Qu:=do
 let having ← dI pj
 Pp items only cy cf group having
def Pq (items:List (Tr×ByteArray))(only:Bool)(cy:ByteArray)(cf:List Tr):Ps Qu:=do
 let group ← kr
 tD items only cy cf group
def Pr (items:List (Tr×ByteArray))(only:Bool)(cy:ByteArray):Ps Qu:=do
 let cf ← dI nL
 Pq items only cy cf
def Uc (items:List (Tr×ByteArray))(only:Bool):Ps Qu:=do
 let cy ← bL
 Pr items only cy
def A5 (items:List (Tr×ByteArray)):Ps Qu:=do
 let only ← may pg
 Uc items only
section
variable {ρ:cB} {w wr w2:World} {big:Bool} {σ bB:aH} {m:BV} {d:Qu}
theorem vG.later {k:Ps Qu}(A:vG ρ w big σ k wr bB m d)(hb:Below wr.heap.size wr w2):vG ρ w big σ k w2 bB m d:=
 ⟨A.did.later hb,A.blk.later hb,A.res.later hb,Qu.at_.keep (fC hb) A.at_,A.todo⟩
theorem vG.A6 {α:Type} {p:Ps α} {f:α→Ps Qu} {x:α}(A:vG ρ w big σ (p >>= f) wr bB m d)(hg:ρ.g < w.heap.size)(dd:dH ρ wr w2 (af p bB) (big || d.long))(hx:au p bB x):vG ρ w big σ (f x) w2 (af p bB) m d:=
 ⟨A.did.trans dd,dd.blk A.blk (by omega),dd.blk A.res (by omega),Qu.at_.keep (dZ dd.grown (by omega)) A.at_,A.todo.go hx⟩
theorem vG.set {k:Ps Qu} {m':BV} {d':Qu}(A:vG ρ w big σ k wr bB m d)(hg:ρ.g < w.heap.size)(i:Nat)(u:Value)(hb:(yN m').toArray=(yN m).toArray.setIfInBounds i u)(hl:d'.long=d.long)(hat:Qu.at_ wr (gK (w.heap.size+2) wr) d' m'):vG ρ w big σ k (wr.setCell ⟨w.heap.size+1,i,none⟩ u) bB m' d':=by
 refine⟨?_,?_,A.res.far (p:=⟨w.heap.size+1,i,none⟩) (by simp) u,Qu.at_.keep (kN (by omega) i u) hat,A.todo⟩
 ·rw[hl];exact A.did.far hg (by omega) i u
 ·rw[hb];exact A.blk.cA i u
theorem vG.stay {k:Ps Qu}(A:vG ρ w big σ k wr bB m d)(hg:ρ.g < w.heap.size)(dd:dH ρ wr w2 bB (big || d.long)):vG ρ w big σ k w2 bB m d:=
 ⟨A.did.trans dd,dd.blk A.blk (by omega),dd.blk A.res (by omega),Qu.at_.keep (dZ dd.grown (by omega)) A.at_,A.todo⟩
theorem vG.list {k k':Ps Qu} {m':BV} {d':Qu} {A7:Bool} {Av:aH}(A:vG ρ w big σ k wr bB m d)(hg:ρ.g < w.heap.size)(dd:dH ρ wr w2 Av A7)(td:Qd (α:=Unit) σ k' Av)(i:Nat)(u:Value)(hb:(yN m').toArray=(yN m).toArray.setIfInBounds i u)(hL:A7=(big || d'.long))(hat:Qu.at_ w2 (gK (w.heap.size+2) w2) d m→Qu.at_ w2 (gK (w.heap.size+2) w2) d' m'):vG ρ w big σ k' (w2.setCell ⟨w.heap.size+1,i,none⟩ u) Av m' d':=by
 refine⟨?_,?_,(dd.blk A.res (by omega)).far (p:=⟨w.heap.size+1,i,none⟩) (by simp) u,Qu.at_.keep (kN (by omega) i u) (hat (Qu.at_.keep (dZ dd.grown (by omega)) A.at_)),td⟩
 ·rw[← hL];exact(A.did.trans dd).far hg (by omega) i u
 ·rw[hb];exact(dd.blk A.blk (by omega)).cA i u
end
structure Ch (ρ:cB) (w:World) (big:Bool) (σ:aH) (k:Nat) (v:Value) (wr:World) (bB:aH) (acc:List (Tr×ByteArray)):Prop where
 pos:0 < acc.length
 few:acc.length+bB.left≤5001
 le:bB.left≤k
 row:fj kt 138 wr (w.heap.size+2) v acc
 did:dH ρ w wr bB (big || decide (64 < acc.length - 1))
 blk:ag wr (w.heap.size+1) 59 #[v,.string ⟨#[]⟩,.bool false,.slice none 0 0,.slice none 0 0,.slice none 0 0,.slice none 0 0,.slice none 0 0]
 res:ag wr w.heap.size 59 #[.slice none 0 0,.string ⟨#[]⟩,.bool false,.slice none 0 0,.slice none 0 0,.slice none 0 0,.slice none 0 0,.slice none 0 0]
 todo:ez ie σ acc bB
theorem Hj (ρ:cB)(w:World)(σ:aH)(big:Bool)(h:ρ.at w σ big):
  Calls Tryz.prog 105 #[ρ.ptr] w fun e w'=>∃(d:Qu) (y:BV),e=.returned (VS y)∧d.at_ w' (gK w.heap.size w') y∧dH ρ w w' (af lD σ) (big || d.long)∧au lD σ d:=by
 have dh:=h.rP;have hb:=ae.then (aa w Wp) (aa _ Wp)
 have hb2:=ae.then hb (aa _ (.cells (aV [dp]) 9))
 have h0:=h.later hb2;have HQ:=hid (((ag.new w 59 #[.slice none 0 0,.string ⟨#[]⟩,.bool false,.slice none 0 0,.slice none 0 0,.slice none 0 0,.slice none 0 0,.slice none 0 0]).alloc Wp).alloc (.cells (aV [dp]) 9));have Pt:=ag.new (w.alloc Wp) 59 #[.slice none 0 0,.string ⟨#[]⟩,.bool false,.slice none 0 0,.slice none 0 0,.slice none 0 0,.slice none 0 0,.slice none 0 0];rw[World.size_alloc] at Pt;have HL:=hid (Pt.alloc (.cells (aV [dp]) 9));have T4:=ag.new ((w.alloc Wp).alloc Wp) 9 (aV [dp]);rw[World.size_alloc,World.size_alloc] at T4;clear Pt;unfold Wp at*;go_enter Tryz.func105,Tryz.ntmps105;go_wp2_with fail;refine(dw ρ _ σ big h0 [dp] (w.heap.size+2) 1 rfl T4 (by omega) (by omega)).mono ?_;rintro e w1 ⟨rfl,d1⟩;simp only[bw] at d1;have hA:vG ρ w big σ (do let items ← mz;lQ items) w1 (af (must dp) σ) {} {}:=
  ⟨by simpa [Qu.long] using(dH.bP h hb2).trans d1,HL.out.grown d1.grown (by simp;omega),HQ.out.grown d1.grown (by simp;omega),Qu.uw _ _,(Qd.start σ).go (p:=must dp) (f:=fun _=>do let items ← mz;lQ items) (x:=()) (bM _ _)⟩
 clear HL HQ T4 h0 d1 hb2;have HA:=hid hA;clear hA;generalize af (must dp) σ=ir at*;have hm:=df ρ w1 ir _ HA.out.did.at_ ⟨#[42]⟩;go_upto_if 9 with fail
 refine hm.mono ?_;rintro e w3 ⟨rfl,d3⟩;rw[show ir.head (⟨#[42]⟩:ByteArray).data.toList=ir.head ek from rfl];have d3:dH ρ w1 w3 (af (may ek) ir) _:=d3;go_upto_if 9 with fail
 go_cut [] (fun wx=>∃(items:List (Tr×ByteArray)) (sl:Sl) (bB:aH),vG ρ w big σ (lQ items) wx bB { items:=sl } { items:=items });case first=>
  cases hst:ir.head ek
  ·have HST:=hid hst;rw[aw hst] at d3;clear hst;have A3:vG ρ w big σ _ w3 ir {} {}:=⟨HA.out.did.trans d3,d3.blk HA.out.blk (by omega),d3.blk HA.out.res (by omega),Qu.at_.keep (dZ d3.grown (by omega)) HA.out.at_,HA.out.todo⟩;have G9:dH ρ w w3 ir big:=by simpa [Qu.long] using A3.did
   have hw3:=A3.blk.lt;have T5:=hid A3;clear d3 hm HA;go_wp2_with fail;refine kS (P:=Tryz.prog) (f:=Aw) (val:=RR) (e:=138) (size:=8) (base:=w.heap.size+2) (l:=[]) (lv:=.slice none 0 0) (Post:=EO kt (fun _=>false) ρ ie ir big) (w0:=w3) (q:=3) (d0:=10) (d1:=11) (d2:=12) (d3:=13) (d4:=14) (d5:=15) (d6:=16) (qb:=w.heap.size+1) (k:=0) (g:=ρ.g) (pq:=.pointer (some ⟨w.heap.size+1,0,none⟩)) (ptr:=ρ.ptr) (F:=127) (args:= #[ρ.ptr]) 55 55 _ 104 (by kernel_rfl) (by kernel_rfl) (by kernel_rfl) (by kernel_rfl) (by kernel_rfl) rfl rfl ?_ ?_ ?_ ?_ ?_ ?_ ?_ Tryz.underlying55 AB rfl (by omega) (fun _=>rfl) (by intro y u hu;simp[Aw,cW] at hu;rcases hu with rfl | rfl | rfl | rfl | rfl | rfl | rfl | rfl <;> rfl) aQ.nil ?_ (by omega) ?_ ?_ ?_ ?_ (by omega) ?_ ?_ ?_
   ·intro ρ' w' h';simp[go_sem,h']
   ·intro ρ' w' h';simp[go_sem,h']
   ·intro ρ' w' h' hc';simp[go_sem,h',hc']
   ·intro ρ' w' h';simp[go_sem,h']
   ·intro ρ' w' hc' h';simp[go_sem,h',hc'.const,hc'.func]
   ·intro ρ' w' y' h';simp[go_sem,h',RR,Aw,cW]
   ·intro ρ' w' s' v' LY kD tE jl;simp only[execOp,resolve,invoke,builtin,Sem.run_bind,Sem.run_pure,Result.andThen_ok,List.map_toArray,List.map_cons,List.map_nil,kD,tE,jl]
   ·exact A3.blk.cell 0
   ·simp[Value.ownBlock]
   ·simp[Value.ownBlock]
   ·simp
   ·simp
   ·intro w' hw';refine(AA ρ w' ir big (G9.at_.later hw')).mono ?_;rintro e w'' ⟨x,y,rfl,hx,hd,hv⟩;exact⟨y,rfl,x,hx,hd,hv⟩
   ·rintro y w' w'' ⟨x,hx,hd,hv⟩;exact hd.grown
   ·intro y s v' w4 T6 w5 W dN hp hl2 oL bo uZ lU dT;obtain⟨_,_,dd,_⟩:=id hp;have hs1:=dN.size;have hs2:=dd.size;have hs3:=hl2.size;obtain⟨x,hgr,hdd,fP⟩:=nW (E:=kt) (T:=138) (lng:=fun _=>false) (B:=w.heap.size+2) (acc:=[]) (by omega) dh (fj.nil kt 138 w3 (w.heap.size+2)) (by omega) G9 dN hp hl2 bo [] uZ .nil lU;obtain⟨⟨A,n,c⟩,kG,qH,_⟩:=hgr.sl (B':=w.heap.size) (by omega);replace kG:v'=.slice A n c:=kG;subst kG;have HX:=(((T5.out.blk.later dN).grown dd.grown (by simp;omega)).later hl2).later (fh bo);have HR:=(((T5.out.res.later dN).grown dd.grown (by simp;omega)).later hl2).later (fh bo);have Li:=HX.frozen 0;have rR:=HX.cA 0 (.slice A n c);have FI:=HR.far (p:=⟨w.heap.size+1,0,none⟩) (by simp) (.slice A n c);have hxl:=HX.lt;unfold yN at rR;simp only[List.setIfInBounds_toArray,List.set_cons_succ,List.set_cons_zero] at rR;have hI:Ch ρ w big ir 5000 (.slice A n c) (W.setCell ⟨w.heap.size+1,0,none⟩ (.slice A n c)) (af ie ir) [x]:=by have hl:=aH.bs gG ir;have Eb:=G9.at_.left;have hsm:=G9.at_.small;refine⟨by simp,by simp;omega,by omega,hgr.far (by omega) 0 (.slice A n c),?_,rR,FI,ez.start fP⟩;have:=hdd.far dh (show w.heap.size≤w.heap.size+1 by omega) 0 (.slice A n c);simpa using this
    have HI:=hid hI;clear hI hgr hdd fP HX HR rR FI uZ lU oL hp dd dN hl2 qH;simp only[Act.put,List.setIfInBounds_toArray,List.set_cons_succ,List.set_cons_zero];go_wp2_with fail;clear Li dT;generalize W.setCell ⟨w.heap.size+1,0,none⟩ (.slice A n c)=W4 at*;go_loopg [] 5000 (fun k wr=>∃bB acc u,Ch ρ w big ir k u wr bB acc);case atStart=>exact⟨_,_,_,HI.out⟩
    case round=>
     obtain⟨bB,acc,u,hE⟩:=hrel;obtain⟨⟨A2,n2,c2⟩,kG,qH,_⟩:=hE.row.sl (B':=w.heap.size) (by omega);replace kG:u=.slice A2 n2 c2:=kG;replace qH:n2=acc.length:=qH;subst kG;have Je:=hid qH;have yM:0 < n2:=by have:=hE.pos;omega
     have rQ:n2≤5001:=by have:=hE.few;omega
     have x0:=hE.blk.cell 0;simp only[List.getElem?_toArray,List.getElem?_cons_zero,List.getElem?_cons_succ] at x0;have T7:=hE.blk.lt;have HE:=hid hE;clear hE qH HI;go_wp2_with fail;refine(um ρ wr bB _ HE.out.did.at_ n2 (by omega)).mono ?_;rintro e w8 ⟨rfl,d8⟩;have ZA:=d8.size;cases hh:bB.head aX
     ·rw[aw hh] at d8;have hdone:=ez.done gG HE.out.todo hh;have hit:=GZ HST.out hdone.2;obtain⟨hb1,hb2⟩:=hit;have LK:=HE.out.did.trans d8;rw[Je.out,nt] at LK;have hrow:=HE.out.row.grown d8.grown (by omega);obtain⟨B3,Pu,_,ES⟩:=hrow.sl (B':=w.heap.size+2) (Nat.le_refl _);have hQ:vG ρ w big σ (lQ acc) w8 bB { items:=B3 } { items:=acc }:=by
       refine⟨?_,?_,d8.blk HE.out.res (by omega),?_,?_⟩
       ·have:Qu.long { items:=acc }=decide (64 < acc.length):=by simp[Qu.long]
        rw[this];exact LK
       ·have:=d8.blk HE.out.blk (by omega);rw[Pu] at this;exact this
       ·exact { Qu.uw w8 _ with items:=ES }
       ·have:=(T5.out.todo).go hb2;rw[hb1,hdone.1] at this;exact this
      have yo:=hid hQ;clear hQ ES Pu hrow LK hb1 hb2 hdone d8 hh;go_wp2_with fail;go_meet;exact⟨acc,B3,bB,yo.out⟩
     ·rw[aB hh] at d8;obtain⟨l1,l2,l3⟩:=jD hh;have xY:=hid hh;have hR:=HE.out.row.grown d8.grown (by omega);have Sn:=d8.blk HE.out.blk (by omega);have B5:=d8.blk HE.out.res (by omega);have LK:=HE.out.did.trans d8;obtain⟨ys,ho,ha⟩:∃ys:List (Ex×ByteArray),aQ Aw 138 8 w8 (w.heap.size+2) (Value.slice A2 n2 c2) ys∧jC (kt.rel w8 (nV (w.heap.size+2) (Value.slice A2 n2 c2) w8)) acc ys:=hR.has;have Wh:(ys:List (Ex×ByteArray)).length=acc.length:=ha.len;have A0:ys.length≤5001:=by have:=HE.out.few;omega
      have how:=fun G hG=>hR.uz (G:=G) hG
      have T8:=Sn.lt;clear Wh hh;go_wp2_with fail;refine kS (P:=Tryz.prog) (f:=Aw) (val:=RR) (e:=138) (size:=8) (base:=w.heap.size+2) (l:=ys) (lv:=.slice A2 n2 c2) (Post:=EO kt (fun _=>false) ρ ie (.good bB.words.tail) ((big || decide (64 < acc.length - 1))|| decide (64 < n2))) (w0:=w8) (q:=3) (d0:=22) (d1:=23) (d2:=24) (d3:=25) (d4:=26) (d5:=27) (d6:=28) (qb:=w.heap.size+1) (k:=0) (g:=ρ.g) (pq:=.pointer (some ⟨w.heap.size+1,0,none⟩)) (ptr:=ρ.ptr) (F:=127) (args:= #[ρ.ptr]) 55 55 _ 104 (by kernel_rfl) (by kernel_rfl) (by kernel_rfl) (by kernel_rfl) (by kernel_rfl) rfl rfl ?_ ?_ ?_ ?_ ?_ ?_ ?_ Tryz.underlying55 AB rfl (by omega) (fun _=>rfl) (by intro y u hu;simp[Aw,cW] at hu;rcases hu with rfl | rfl | rfl | rfl | rfl | rfl | rfl | rfl <;> rfl) ho ?_ (by omega) ?_ ?_ ?_ ?_ (by omega) ?_ ?_ ?_
      ·intro ρ' w' h';simp[go_sem,h']
      ·intro ρ' w' h';simp[go_sem,h']
      ·intro ρ' w' h' hc';simp[go_sem,h',hc']
      ·intro ρ' w' h';simp[go_sem,h']
      ·intro ρ' w' hc' h';simp[go_sem,h',hc'.const,hc'.func]
      ·intro ρ' w' y' h';simp[go_sem,h',RR,Aw,cW]
      ·intro ρ' w' s' v' LY kD tE jl;simp only[execOp,resolve,invoke,builtin,Sem.run_bind,Sem.run_pure,Result.andThen_ok,List.map_toArray,List.map_cons,List.map_nil,kD,tE,jl]
      ·exact Sn.cell 0
      ·intro e';have:=(how _ e').1;omega
      ·intro e';have:=(how _ e').1;omega
      ·omega
      ·omega
      ·intro w' hw';refine(AA ρ w' (.good bB.words.tail) _ (d8.at_.later hw')).mono ?_;rintro e w'' ⟨x,y,rfl,hx,hd,hv⟩;exact⟨y,rfl,x,hx,hd,hv⟩
      ·rintro y w' w'' ⟨x,hx,hd,hv⟩;exact hd.grown
      ·intro y9 s9 v9 w4 T6 w5 W9 dN hp hl2 oL bo uZ lU dT;obtain⟨_,_,dd,_⟩:=id hp;have hs1:=dN.size;have hs2:=dd.size;have hs3:=hl2.size;obtain⟨x9,hgr,hdd,fP⟩:=nW (E:=kt) (T:=138) (lng:=fun _=>false) (B:=w.heap.size+2) (acc:=acc) (by omega) dh hR (by omega) LK dN hp hl2 bo ys uZ ha lU;obtain⟨⟨A9,n9,c9⟩,kG,Wt,_⟩:=hgr.sl (B':=w.heap.size) (by omega);replace kG:v9=.slice A9 n9 c9:=kG;subst kG;have Wu:∀(q:Nat),q < w.heap.size+2→some q≠(Value.slice A2 n2 c2).ownBlock:=fun q hq e'=>by have:=(how q e'.symm).1;omega
       have HX:=(((Sn.later dN).grown dd.grown (by simp;omega)).later hl2).grown bo (Wu _ (by omega));have HR:=(((B5.later dN).grown dd.grown (by simp;omega)).later hl2).grown bo (Wu _ (by omega));have Li:=HX.frozen 0;have rR:=HX.cA 0 (.slice A9 n9 c9);have FI:=HR.far (p:=⟨w.heap.size+1,0,none⟩) (by simp) (.slice A9 n9 c9);simp only[List.setIfInBounds_toArray,List.set_cons_succ,List.set_cons_zero] at rR;have hl5:=aH.bs gG (aH.good bB.words.tail);have hI:Ch ρ w big ir (af ie (.good bB.words.tail)).left (.slice A9 n9 c9) (W9.setCell ⟨w.heap.size+1,0,none⟩ (.slice A9 n9 c9)) (af ie (.good bB.words.tail)) (acc++ [x9]):=by refine⟨by simp,by have:=HE.out.few;simp;omega,Nat.le_refl _,hgr.far (by omega) 0 (.slice A9 n9 c9),?_,rR,FI,ez.go gG HE.out.todo xY.out fP⟩;have:=hdd.far dh (show w.heap.size≤w.heap.size+1 by omega) 0 (.slice A9 n9 c9);rw[Je.out,nt,Bool.or_false] at this;rw[List.length_append,List.length_singleton,Nat.add_sub_cancel];exact this
       have T9:=hid hI;clear hI hgr hdd fP HX HR rR FI uZ lU oL hp dd dN hl2 Wt bo hR Sn B5 LK ha ho how Wu;simp only[Act.put,List.setIfInBounds_toArray,List.set_cons_succ,List.set_cons_zero];go_wp2_with fail;go_roundg (af ie (aH.good bB.words.tail)).left;case measure=>have:=HE.out.le;omega
       case rel=>exact⟨_,_,_,T9.out⟩
  ·rw[aB hst] at d3;obtain⟨hb1,hb2⟩:=GY hst;have hQ:vG ρ w big σ (lQ []) w3 (.good ir.words.tail) { items:=Sl.nil } { items:=[] }:=by refine⟨HA.out.did.trans d3,d3.blk HA.out.blk (by omega),d3.blk HA.out.res (by omega),Qu.at_.keep (dZ d3.grown (by omega)) HA.out.at_,?_⟩;have:=(HA.out.todo).go hb2;rw[hb1] at this;exact this
   have yo:=hid hQ;clear hQ hb1 hb2 d3 hst hm;go_wp2_with fail;go_meet;exact⟨[],Sl.nil,_,yo.out⟩
 case rest=>
  obtain⟨items,sl,Av,hQ⟩:=hcut;clear hm d3 HA hb;have bf:=aa wc (.cells (aV [nK]) 9);have hQ1:=hQ.later bf;have Lb:=hQ.blk.lt;have Fi:=hid hQ1;clear hQ hQ1;go_wp2_with fail;refine(dw ρ _ Av _ Fi.out.did.at_ [nK] wc.heap.size 1 rfl (ag.new _ _ _) (by omega) (by omega)).mono ?_;rintro e w4 ⟨rfl,d4⟩;simp only[bw] at d4;have hQ2:=Fi.out.A6 (p:=must nK) (f:=fun _=>A5 items) (x:=()) dh d4 (bM _ _);have BN:=hid hQ2;clear hQ2 d4 Fi bf;generalize af (must nK) Av=Xz at*;go_wp2_with fail;refine(df ρ _ Xz _ BN.out.did.at_ ⟨#[111,110,108,121]⟩).mono ?_;rintro e w5 ⟨rfl,d5⟩;rw[show Xz.head (⟨#[111,110,108,121]⟩:ByteArray).data.toList=Xz.head pg from rfl];have B6:=BN.out.A6 (p:=may pg) (f:=fun only=>Uc items only) (x:=Xz.head pg) dh d5 (aI _ _);generalize af (may pg) Xz=σ4 at*;generalize Xz.head pg=only at*;have hQ4:=B6.set (m':= { items:=sl,only:=only }) (d':= { items:=items,only:=only }) dh 2 (.bool only) rfl rfl { B6.at_ with only:=rfl };have hf2:=B6.blk.frozen 2;have hc2:=B6.blk.cell 2;have Jn:=hid hQ4;clear B6 hQ4 d5 BN;go_wp2_with fail;clear hf2 hc2;generalize w5.setCell ⟨w.heap.size+1,2,none⟩ (.bool only)=W6 at*;refine(pU ρ _ σ4 _ Jn.out.did.at_).mono ?_;rintro e w6 ⟨cy,rfl,d6,zq⟩;have B7:=Jn.out.A6 (p:=bL) (f:=fun cy=>Pr items only cy) (x:=cy) dh d6 zq;generalize af bL σ4=σ5 at*;have hQ6:=B7.set (m':= { items:=sl,only:=only,cy:=cy }) (d':= { items:=items,only:=only,cy:=cy }) dh 1 (.string cy) rfl rfl { B7.at_ with cy:=rfl };have YT:=B7.blk.frozen 1;have hc1:=B7.blk.cell 1;have rG:=hid hQ6;clear B7 hQ6 d6 zq Jn;go_wp2_with fail;clear YT hc1;generalize w6.setCell ⟨w.heap.size+1,1,none⟩ (.string cy)=W7 at*;refine(EP ρ _ σ5 _ rG.out.did.at_ ⟨#[119,104,101,114,101]⟩).mono ?_;rintro e w7 ⟨cf,sw,rfl,hsw,d7,bo⟩;have hs7:=rG.out.did.size;have Xc:=rG.out.blk.lt;have B8:=rG.out.A6 (p:=dI nL) (f:=fun cf=>Pq items only cy cf) (x:=cf) dh d7 bo;generalize U0:af (dI nL) σ5=XA at*;clear U0;have hQ8:=B8.set (m':= { items:=sl,only:=only,cy:=cy,cf:=sw }) (d':= { items:=items,only:=only,cy:=cy,cf:=cf }) dh 3 (kn sw) rfl rfl { B8.at_ with cf:=El.lies.more hsw (by omega)};have hf3:=B8.blk.frozen 3;have hc3:=B8.blk.cell 3;have Em:=hid hQ8;clear B8 hQ8 d7 bo hsw rG;obtain⟨yO,yP,yQ⟩:=sw;unfold kn at*;go_upto_if 42 with fail
  clear hf3 hc3;generalize w7.setCell ⟨w.heap.size+1,3,none⟩ (.slice yO yP yQ)=W8 at*;refine(df ρ _ XA _ Em.out.did.at_ ⟨#[103,114,111,117,112]⟩).mono ?_;rintro e w8 ⟨rfl,d8⟩;rw[show XA.head (⟨#[103,114,111,117,112]⟩:ByteArray).data.toList=XA.head jM from rfl];have d8:dH ρ W8 w8 (af (may jM) XA) _:=d8;go_upto_if 42 with fail
  go_cut [] (fun wx=>∃(group:List Tr) (sg:Sl) (bB:aH),vG ρ w big σ (tD items only cy cf group) wx bB { items:=sl,only:=only,cy:=cy,cf:=⟨yO,yP,yQ⟩,group:=sg } { items:=items,only:=only,cy:=cy,cf:=cf,group:=group });case first=>
   cases hgr:XA.head jM
   ·rw[aw hgr] at d8;obtain⟨hb1,hb2⟩:=EB hgr;have hS:=Em.out.stay dh d8;have AD:=hS.todo.go (p:=kr) (f:=fun group=>tD items only cy cf group) hb2;rw[hb1] at AD;have Sq:=hid (show vG ρ w big σ (tD items only cy cf []) w8 XA { items:=sl,only:=only,cy:=cy,cf:=⟨yO,yP,yQ⟩,group:=Sl.nil } { items:=items,only:=only,cy:=cy,cf:=cf,group:=[] } from⟨hS.did,hS.blk,hS.res,hS.at_,AD⟩);clear hS AD hb1 hb2 d8 hgr Em;go_wp2_with fail;go_meet;exact⟨[],Sl.nil,_,Sq.out⟩
   ·rw[aB hgr] at d8;have YR:=hid hgr;clear hgr;have b8:=aa w8 (.cells (aV [xB]) 9);have hw8:=(d8.blk Em.out.blk (by omega)).lt;go_wp2_with fail;refine(dw ρ _ _ _ (d8.at_.later b8) [xB] w8.heap.size 1 rfl (ag.new _ _ _) (by omega) (by omega)).mono ?_;rintro e w9 ⟨rfl,d9⟩;simp only[bw] at d9;have ZA:=d8.size;have B9:=d9.size;go_wp2_with fail;refine(Hi ρ _ _ _ d9.at_).mono ?_;rintro e oD ⟨group,sg,rfl,Og,Fj,fP⟩;have U1:=Ha YR.out fP;have hdd:=((d8.later b8).trans d9).trans Fj;have hX:=hdd.blk Em.out.blk (by omega);have hf4:=hX.frozen 4;have hc4:=hX.cell 4;obtain⟨U2,U3,U4⟩:=sg;have AD:=Em.out.todo.go (p:=kr) (f:=fun group=>tD items only cy cf group) U1.2;rw[U1.1] at AD;have hQ9:=Em.out.list (m':= { items:=sl,only:=only,cy:=cy,cf:=⟨yO,yP,yQ⟩,group:=⟨U2,U3,U4⟩}) (d':= { items:=items,only:=only,cy:=cy,cf:=cf,group:=group }) dh hdd AD 4 (.slice U2 U3 U4) rfl (by simp[Qu.long,Bool.or_assoc]) (fun hat=> { hat with group:=El.lies.more Og (by simp at B9;omega)});have Sq:=hid hQ9;clear hQ9 AD hX hdd U1 Og Fj fP d9 b8 d8 Em;unfold kn;go_wp2_with fail;go_meet;exact⟨group,⟨U2,U3,U4⟩,_,Sq.out⟩
  case rest=>
   obtain⟨group,sg,σ7,hQ⟩:=hcut;clear d8 Em;have Sq:=hid hQ;clear hQ;go_wp2_with fail;refine(EP ρ _ σ7 _ Sq.out.did.at_ ⟨#[104,97,118,105,110,103]⟩).mono ?_;rintro e U5 ⟨having,sh,rfl,Ri,d11,hgh⟩;have adJ:=Sq.out.did.size;have adK:=Sq.out.blk.lt;have Pv:=Sq.out.A6 (p:=dI pj) (f:=fun having=>Pp items only cy cf group having) (x:=having) dh d11 hgh;generalize U6:af (dI pj) σ7=Wv at*;clear U6;obtain⟨AE,AG,AH⟩:=sh;have C1:=Pv.set (m':= { items:=sl,only:=only,cy:=cy,cf:=⟨yO,yP,yQ⟩,group:=sg,having:=⟨AE,AG,AH⟩}) (d':= { items:=items,only:=only,cy:=cy,cf:=cf,group:=group,having:=having }) dh 5 (.slice AE AG AH) rfl rfl { Pv.at_ with having:=El.lies.more Ri (by omega)};have hf5:=Pv.blk.frozen 5;have hc5:=Pv.blk.cell 5;have yF:=hid C1;clear Pv C1 d11 hgh Ri Sq;unfold kn;go_upto_if 53 with fail
   clear hf5 hc5;generalize U5.setCell ⟨w.heap.size+1,5,none⟩ (.slice AE AG AH)=W12 at*;refine(df ρ _ Wv _ yF.out.did.at_ ⟨#[111,114,100,101,114]⟩).mono ?_;rintro e Lj ⟨rfl,nx⟩;rw[show Wv.head (⟨#[111,114,100,101,114]⟩:ByteArray).data.toList=Wv.head jN from rfl];have nx:dH ρ W12 Lj (af (may jN) Wv) _:=nx;go_upto_if 53 with fail
   go_cut [] (fun wx=>∃(order:List (Tr×Bool)) (so:Sl) (bB:aH),vG ρ w big σ (uA items only cy cf group having order) wx bB { items:=sl,only:=only,cy:=cy,cf:=⟨yO,yP,yQ⟩,group:=sg,having:=⟨AE,AG,AH⟩,order:=so } { items:=items,only:=only,cy:=cy,cf:=cf,group:=group,having:=having,order:=order });case first=>
    cases Mn:Wv.head jN
    ·rw[aw Mn] at nx;obtain⟨hb1,hb2⟩:=Ca Mn;have hS:=yF.out.stay dh nx;have AD:=hS.todo.go (p:=iB) (f:=fun order=>uA items only cy cf group having order) hb2;rw[hb1] at AD;have Ci:=hid (show vG ρ w big σ (uA items only cy cf group having []) Lj Wv { items:=sl,only:=only,cy:=cy,cf:=⟨yO,yP,yQ⟩,group:=sg,having:=⟨AE,AG,AH⟩,order:=Sl.nil } { items:=items,only:=only,cy:=cy,cf:=cf,group:=group,having:=having,order:=[] } from⟨hS.did,hS.blk,hS.res,hS.at_,AD⟩);clear hS AD hb1 hb2 nx Mn yF;go_wp2_with fail;go_meet;exact⟨[],Sl.nil,_,Ci.out⟩
    ·skip
     rw[aB Mn] at nx;have SY:=hid Mn;clear Mn;have GF:=aa Lj (.cells (aV [xB]) 9);have adO:=(nx.blk yF.out.blk (by omega)).lt;go_wp2_with fail;refine(dw ρ _ _ _ (nx.at_.later GF) [xB] Lj.heap.size 1 rfl (ag.new _ _ _) (by omega) (by omega)).mono ?_;rintro e Ct ⟨rfl,uu⟩;simp only[bw] at uu;have RP:=nx.size;have Ep:=uu.size;have hdd:=(nx.later GF).trans uu;have hX:=hdd.blk yF.out.blk (by omega);have hR0:=hdd.blk yF.out.res (by omega);have Ud:=Qu.at_.keep (dZ hdd.grown (by omega)) yF.out.at_;have Pw:=yF.out.did.trans hdd;have abN:=hX.lt;have HTD:=hid yF.out.todo;clear nx uu GF hdd yF;generalize hso:af (must xB) (aH.good Wv.words.tail)=Ww at*;have C2:=hid hso;clear hso;generalize hbg:(big || Qu.long { items:=items,only:=only,cy:=cy,cf:=cf,group:=group,having:=having })=bg at*;have HBG:=hid hbg;clear hbg;go_wp2_with fail;refine kS (P:=Tryz.prog) (f:=Jr) (val:=Xy) (e:=140) (size:=8) (base:=w.heap.size+2) (l:=[]) (lv:=.slice none 0 0) (Post:=EO jP (fun _=>false) ρ gB Ww bg) (w0:=Ct) (q:=3) (d0:=57) (d1:=58) (d2:=59) (d3:=60) (d4:=61) (d5:=62) (d6:=63) (qb:=w.heap.size+1) (k:=6) (g:=ρ.g) (pq:=.pointer (some ⟨w.heap.size+1,0,none⟩)) (ptr:=ρ.ptr) (F:=129) (args:= #[ρ.ptr]) 56 56 _ 96 (by kernel_rfl) (by kernel_rfl) (by kernel_rfl) (by kernel_rfl) (by kernel_rfl) rfl rfl ?_ ?_ ?_ ?_ ?_ ?_ ?_ Tryz.underlying56 yD rfl (by omega) (fun _=>rfl) (by intro y u hu;simp[Jr,cW] at hu;rcases hu with rfl | rfl | rfl | rfl | rfl | rfl | rfl | rfl <;> rfl) aQ.nil ?_ (by omega) ?_ ?_ ?_ ?_ (by omega) ?_ ?_ ?_
     ·intro ρ' w' h';simp[go_sem,h']
     ·intro ρ' w' h';simp[go_sem,h']
     ·intro ρ' w' h' hc';simp[go_sem,h',hc']
     ·intro ρ' w' h';simp[go_sem,h']
     ·intro ρ' w' hc' h';simp[go_sem,h',hc'.const,hc'.func]
     ·intro ρ' w' y' h';simp[go_sem,h',Xy,Jr,cW]
     ·intro ρ' w' s' v' LY kD tE jl;simp only[execOp,resolve,invoke,builtin,Sem.run_bind,Sem.run_pure,Result.andThen_ok,List.map_toArray,List.map_cons,List.map_nil,kD,tE,jl]
     ·exact hX.cell 6
     ·simp[Value.ownBlock]
     ·simp[Value.ownBlock]
     ·simp
     ·simp
     ·intro w' hw';refine(yB ρ w' Ww bg (Pw.at_.later hw')).mono ?_;rintro e w'' ⟨x,y,rfl,hx,hd,hv⟩;exact⟨y,rfl,x,hx,hd,hv⟩
     ·rintro y w' w'' ⟨x,hx,hd,hv⟩;exact hd.grown
     ·intro y s v' w4 T6 w5 W dN hp hl2 oL bo uZ lU dT;obtain⟨_,_,dd,_⟩:=id hp;have hs1:=dN.size;have hs2:=dd.size;have hs3:=hl2.size;obtain⟨x,hgr,hdd,fP⟩:=nW (E:=jP) (T:=140) (lng:=fun _=>false) (B:=w.heap.size+2) (acc:=[]) (by omega) dh (fj.nil jP 140 Ct (w.heap.size+2)) (by omega) Pw dN hp hl2 bo [] uZ .nil lU;obtain⟨⟨A,n,c⟩,kG,qH,_⟩:=hgr.sl (B':=w.heap.size) (by omega);replace kG:v'=.slice A n c:=kG;subst kG;have HX:=(((hX.later dN).grown dd.grown (by simp;omega)).later hl2).later (fh bo);have HR:=(((hR0.later dN).grown dd.grown (by simp;omega)).later hl2).later (fh bo);have C3:Qu.at_ Ct (nV (w.heap.size+2) (.slice none 0 0) Ct) _ _:=Qu.at_.keep (fun b hb=>⟨fun _=>rfl,hb.1,hb.2,by simp[Value.ownBlock]⟩) Ud;have Px:=Qu.at_.keep (yC (show w.heap.size+1 < w.heap.size+2 by omega) 6 (.slice A n c)) (Qu.at_.keep (np bo lU) (Qu.at_.keep (gI hl2) (Qu.at_.keep (jG dd.grown (by omega)) (Qu.at_.keep (gI dN) C3))));have Li:=HX.frozen 6;have rR:=HX.cA 6 (.slice A n c);have FI:=HR.far (p:=⟨w.heap.size+1,6,none⟩) (by simp) (.slice A n c);have hxl:=HX.lt;unfold yN at rR;simp only[List.setIfInBounds_toArray,List.set_cons_succ,List.set_cons_zero] at rR;have hI:yE ρ w bg Ww { items:=sl,only:=only,cy:=cy,cf:=⟨yO,yP,yQ⟩,group:=sg,having:=⟨AE,AG,AH⟩} { items:=items,only:=only,cy:=cy,cf:=cf,group:=group,having:=having } 5000 (.slice A n c) (W.setCell ⟨w.heap.size+1,6,none⟩ (.slice A n c)) (af gB Ww) [x]:=by have hl:=aH.bs gH Ww;have Eb:=Pw.at_.left;have hsm:=Pw.at_.small;refine⟨by simp,by simp;omega,by omega,hgr.far (by omega) 6 (.slice A n c),?_,rR,FI,Px,ez.start fP⟩;have:=hdd.far dh (show w.heap.size≤w.heap.size+1 by omega) 6 (.slice A n c);simpa using this
      have HI:=hid hI;clear hI hgr hdd fP HX HR rR FI uZ lU oL hp dd dN hl2 qH Px C3 Ud hX hR0 Pw;simp only[Act.put,List.setIfInBounds_toArray,List.set_cons_succ,List.set_cons_zero];go_wp2_with fail;clear Li dT;generalize W.setCell ⟨w.heap.size+1,6,none⟩ (.slice A n c)=W4 at*;go_loopg [] 5000 (fun k wr=>∃bB acc u,yE ρ w bg Ww { items:=sl,only:=only,cy:=cy,cf:=⟨yO,yP,yQ⟩,group:=sg,having:=⟨AE,AG,AH⟩} { items:=items,only:=only,cy:=cy,cf:=cf,group:=group,having:=having } k u wr bB acc);case atStart=>exact⟨_,_,_,HI.out⟩
      case round=>
       obtain⟨bB,acc,u,hE⟩:=hrel;obtain⟨⟨A2,n2,c2⟩,kG,qH,_⟩:=hE.row.sl (B':=w.heap.size) (by omega);replace kG:u=.slice A2 n2 c2:=kG;replace qH:n2=acc.length:=qH;subst kG;have Je:=hid qH;have yM:0 < n2:=by have:=hE.pos;omega
       have rQ:n2≤5001:=by have:=hE.few;omega
       have x6:=hE.blk.cell 6;simp only[List.getElem?_toArray,List.getElem?_cons_zero,List.getElem?_cons_succ] at x6;have T7:=hE.blk.lt;have HE:=hid hE;clear hE qH HI;go_wp2_with fail;refine(um ρ wr bB _ HE.out.did.at_ n2 (by omega)).mono ?_;rintro e w8 ⟨rfl,d8⟩;have ZA:=d8.size;cases hh:bB.head aX
       ·rw[aw hh] at d8;have hdone:=ez.done gH HE.out.todo hh;have PQ:=EC SY.out (l:=acc) (by rw[C2.out];exact hdone.2);rw[C2.out] at PQ;obtain⟨hb1,hb2⟩:=PQ;have LK:=HE.out.did.trans d8;rw[Je.out,nt] at LK;have hrow:=HE.out.row.grown d8.grown (by omega);have Py:=Qu.at_.keep (EN (Nat.le_refl _)) (Qu.at_.keep (jG d8.grown (by omega)) HE.out.at_);obtain⟨B3,Pu,_,ES⟩:=hrow.sl (B':=w.heap.size+2) (Nat.le_refl _);have hQ:vG ρ w big σ (uA items only cy cf group having acc) w8 bB { items:=sl,only:=only,cy:=cy,cf:=⟨yO,yP,yQ⟩,group:=sg,having:=⟨AE,AG,AH⟩,order:=B3 } { items:=items,only:=only,cy:=cy,cf:=cf,group:=group,having:=having,order:=acc }:=by
         refine⟨?_,?_,d8.blk HE.out.res (by omega),?_,?_⟩
         ·rw[show(big || Qu.long { items:=items,only:=only,cy:=cy,cf:=cf,group:=group,having:=having,order:=acc })=(bg || decide (64 < acc.length)) by rw[← HBG.out];simp[Qu.long,Bool.or_assoc]];exact LK
         ·have:=d8.blk HE.out.blk (by omega);rw[Pu] at this;exact this
         ·exact { Py with order:=ES }
         ·have:=(HTD.out).go (p:=iB) (f:=fun order=>uA items only cy cf group having order) hb2;rw[hb1,hdone.1] at this;exact this
        have yo:=hid hQ;clear hQ ES Pu hrow LK hb1 hb2 hdone d8 hh Py;go_wp2_with fail;go_meet;exact⟨acc,B3,bB,yo.out⟩
       ·rw[aB hh] at d8;obtain⟨l1,l2,l3⟩:=jD hh;have xY:=hid hh;have hR:=HE.out.row.grown d8.grown (by omega);have Py:=Qu.at_.keep (jG d8.grown (by omega)) HE.out.at_;have Sn:=d8.blk HE.out.blk (by omega);have B5:=d8.blk HE.out.res (by omega);have LK:=HE.out.did.trans d8;obtain⟨ys,ho,ha⟩:∃ys:List (Ex×Bool),aQ Jr 140 8 w8 (w.heap.size+2) (Value.slice A2 n2 c2) ys∧jC (jP.rel w8 (nV (w.heap.size+2) (Value.slice A2 n2 c2) w8)) acc ys:=hR.has;have Wh:(ys:List (Ex×Bool)).length=acc.length:=ha.len;have A0:ys.length≤5001:=by have:=HE.out.few;omega
        have how:=fun G hG=>hR.uz (G:=G) hG
        have T8:=Sn.lt;clear Wh hh;go_wp2_with fail;refine kS (P:=Tryz.prog) (f:=Jr) (val:=Xy) (e:=140) (size:=8) (base:=w.heap.size+2) (l:=ys) (lv:=.slice A2 n2 c2) (Post:=EO jP (fun _=>false) ρ gB (.good bB.words.tail) ((bg || decide (64 < acc.length - 1))|| decide (64 < n2))) (w0:=w8) (q:=3) (d0:=69) (d1:=70) (d2:=71) (d3:=72) (d4:=73) (d5:=74) (d6:=75) (qb:=w.heap.size+1) (k:=6) (g:=ρ.g) (pq:=.pointer (some ⟨w.heap.size+1,0,none⟩)) (ptr:=ρ.ptr) (F:=129) (args:= #[ρ.ptr]) 56 56 _ 96 (by kernel_rfl) (by kernel_rfl) (by kernel_rfl) (by kernel_rfl) (by kernel_rfl) rfl rfl ?_ ?_ ?_ ?_ ?_ ?_ ?_ Tryz.underlying56 yD rfl (by omega) (fun _=>rfl) (by intro y u hu;simp[Jr,cW] at hu;rcases hu with rfl | rfl | rfl | rfl | rfl | rfl | rfl | rfl <;> rfl) ho ?_ (by omega) ?_ ?_ ?_ ?_ (by omega) ?_ ?_ ?_
        ·intro ρ' w' h';simp[go_sem,h']
        ·intro ρ' w' h';simp[go_sem,h']
        ·intro ρ' w' h' hc';simp[go_sem,h',hc']
        ·intro ρ' w' h';simp[go_sem,h']
        ·intro ρ' w' hc' h';simp[go_sem,h',hc'.const,hc'.func]
        ·intro ρ' w' y' h';simp[go_sem,h',Xy,Jr,cW]
        ·intro ρ' w' s' v' LY kD tE jl;simp only[execOp,resolve,invoke,builtin,Sem.run_bind,Sem.run_pure,Result.andThen_ok,List.map_toArray,List.map_cons,List.map_nil,kD,tE,jl]
        ·exact Sn.cell 6
        ·intro e';have:=(how _ e').1;omega
        ·intro e';have:=(how _ e').1;omega
        ·omega
        ·omega
        ·intro w' hw';refine(yB ρ w' (.good bB.words.tail) _ (d8.at_.later hw')).mono ?_;rintro e w'' ⟨x,y,rfl,hx,hd,hv⟩;exact⟨y,rfl,x,hx,hd,hv⟩
        ·rintro y w' w'' ⟨x,hx,hd,hv⟩;exact hd.grown
        ·intro y9 s9 v9 w4 T6 w5 W9 dN hp hl2 oL bo uZ lU dT;obtain⟨_,_,dd,_⟩:=id hp;have hs1:=dN.size;have hs2:=dd.size;have hs3:=hl2.size;obtain⟨x9,hgr,hdd,fP⟩:=nW (E:=jP) (T:=140) (lng:=fun _=>false) (B:=w.heap.size+2) (acc:=acc) (by omega) dh hR (by omega) LK dN hp hl2 bo ys uZ ha lU;obtain⟨⟨A9,n9,c9⟩,kG,Wt,_⟩:=hgr.sl (B':=w.heap.size) (by omega);replace kG:v9=.slice A9 n9 c9:=kG;subst kG;have Wu:∀(q:Nat),q < w.heap.size+2→some q≠(Value.slice A2 n2 c2).ownBlock:=fun q hq e'=>by have:=(how q e'.symm).1;omega
         have HX:=(((Sn.later dN).grown dd.grown (by simp;omega)).later hl2).grown bo (Wu _ (by omega));have HR:=(((B5.later dN).grown dd.grown (by simp;omega)).later hl2).grown bo (Wu _ (by omega));have Px:=Qu.at_.keep (yC (show w.heap.size+1 < w.heap.size+2 by omega) 6 (.slice A9 n9 c9)) (Qu.at_.keep (np bo lU) (Qu.at_.keep (gI hl2) (Qu.at_.keep (jG dd.grown (by omega)) (Qu.at_.keep (gI dN) Py))));have Li:=HX.frozen 6;have rR:=HX.cA 6 (.slice A9 n9 c9);have FI:=HR.far (p:=⟨w.heap.size+1,6,none⟩) (by simp) (.slice A9 n9 c9);simp only[List.setIfInBounds_toArray,List.set_cons_succ,List.set_cons_zero] at rR;have hl5:=aH.bs gH (aH.good bB.words.tail);have hI:yE ρ w bg Ww { items:=sl,only:=only,cy:=cy,cf:=⟨yO,yP,yQ⟩,group:=sg,having:=⟨AE,AG,AH⟩} { items:=items,only:=only,cy:=cy,cf:=cf,group:=group,having:=having } (af gB (.good bB.words.tail)).left (.slice A9 n9 c9) (W9.setCell ⟨w.heap.size+1,6,none⟩ (.slice A9 n9 c9)) (af gB (.good bB.words.tail)) (acc++ [x9]):=by refine⟨by simp,by have:=HE.out.few;simp;omega,Nat.le_refl _,hgr.far (by omega) 6 (.slice A9 n9 c9),?_,rR,FI,Px,ez.go gH HE.out.todo xY.out fP⟩;have:=hdd.far dh (show w.heap.size≤w.heap.size+1 by omega) 6 (.slice A9 n9 c9);rw[Je.out,nt,Bool.or_false] at this;rw[List.length_append,List.length_singleton,Nat.add_sub_cancel];exact this
         have T9:=hid hI;clear hI hgr hdd fP HX HR rR FI uZ lU oL hp dd dN hl2 Wt bo hR Sn B5 LK ha ho how Wu Px Py;simp only[Act.put,List.setIfInBounds_toArray,List.set_cons_succ,List.set_cons_zero];go_wp2_with fail;go_roundg (af gB (aH.good bB.words.tail)).left;case measure=>have:=HE.out.le;omega
         case rel=>exact⟨_,_,_,T9.out⟩
   case rest=>
    obtain⟨order,so,U7,hQ⟩:=hcut;clear nx yF;have Ci:=hid hQ;clear hQ;cases vI:U7.head lZ
    ·have hm:=cT ρ wc U7 _ Ci.out.did.at_ ⟨#[108,105,109,105,116]⟩ vI;obtain⟨hb1,hb2⟩:=ED vI;clear vI;go_wp2_with fail;refine hm.mono ?_;rintro e Cu ⟨rfl,Cv⟩;have hS:=Ci.out.stay dh Cv;have AD:=hS.todo.go (p:=jA) (f:=fun bU=>pure { items:=items,only:=only,cy:=cy,cf:=cf,group:=group,having:=having,order:=order,bU:=bU }) hb2;rw[hb1] at AD;have Qh:=hid AD.done;have HS:=hid hS;obtain⟨x0,x1,x2,x3,x4,x5,x6,x7⟩:=cE hS.blk;obtain⟨z0,z1,z2,z3,z4,z5,z6,z7⟩:=jm hS.res;obtain⟨y0,y1,y2,y3,y4,y5,y6,y7⟩:=cE hS.res;unfold kn at x0 x3 x4 x5 x6 x7;clear hS AD hb1 hb2 Cv hm;go_wp2_with fail;have HP:=ER HS.out.res { items:=sl,only:=only,cy:=cy,cf:=⟨yO,yP,yQ⟩,group:=sg,having:=⟨AE,AG,AH⟩,order:=so,bU:=Sl.nil };have HR:=cE HP;unfold vH kn at HR;obtain⟨r0,r1,r2,r3,r4,r5,r6,r7⟩:=HR;refine bodyPost_ret (v:=VS { items:=sl,only:=only,cy:=cy,cf:=⟨yO,yP,yQ⟩,group:=sg,having:=⟨AE,AG,AH⟩,order:=so,bU:=Sl.nil }) ?_ rfl ?_
     ·simp[results,Tryz.results105,go_sem,r0,r1,r2,r3,r4,r5,r6,r7];rfl
     ·refine⟨{ items:=items,only:=only,cy:=cy,cf:=cf,group:=group,having:=having,order:=order,bU:=[] },{ items:=sl,only:=only,cy:=cy,cf:=⟨yO,yP,yQ⟩,group:=sg,having:=⟨AE,AG,AH⟩,order:=so,bU:=Sl.nil },rfl,?_,?_,Qh.out.2⟩
      ·exact Qu.at_.keep (eY (by omega)) (HS.out.at_.vH (by omega) { items:=sl,only:=only,cy:=cy,cf:=⟨yO,yP,yQ⟩,group:=sg,having:=⟨AE,AG,AH⟩,order:=so,bU:=Sl.nil })
      ·rw[Qh.out.1];exact HS.out.did.vH dh (Nat.le_refl _) { items:=sl,only:=only,cy:=cy,cf:=⟨yO,yP,yQ⟩,group:=sg,having:=⟨AE,AG,AH⟩,order:=so,bU:=Sl.nil }
    ·have hm:=lN ρ wc U7 _ Ci.out.did.at_ ⟨#[108,105,109,105,116]⟩ vI;have HLI:=hid vI;have adS:=Ci.out.blk.lt;clear vI;go_wp2_with fail;refine hm.mono ?_;rintro e Ct ⟨rfl,uu⟩;go_wp2_with fail;refine(Am ρ _ _ _ uu.at_).mono ?_;rintro e Cu ⟨k,Zw,QM,rfl,Cv,ZF⟩;obtain⟨hb1,hb2⟩:=Hb HLI.out ZF;have AD:=Ci.out.todo.go (p:=jA) (f:=fun bU=>pure { items:=items,only:=only,cy:=cy,cf:=cf,group:=group,having:=having,order:=order,bU:=bU }) hb2;rw[hb1] at AD;have Qh:=hid AD.done;have Ep:=uu.size;have RO:=Cv.size;have b15:=aa Cu (.cells #[.int .i64 k] 2);have hdd:=(uu.trans Cv).later b15;have hX:=hdd.blk Ci.out.blk (by omega);have hf7:=hX.frozen 7;have hc7:=hX.cell 7;have hS:=Ci.out.list (m':= { items:=sl,only:=only,cy:=cy,cf:=⟨yO,yP,yQ⟩,group:=sg,having:=⟨AE,AG,AH⟩,order:=so,bU:=⟨some ⟨Cu.heap.size,0,none⟩,1,1⟩}) (d':= { items:=items,only:=only,cy:=cy,cf:=cf,group:=group,having:=having,order:=order,bU:=[k] }) dh hdd AD 7 (.slice (some ⟨Cu.heap.size,0,none⟩) 1 1) rfl rfl (fun hat=> { hat with bU:=Sm (ag.new Cu _ _) ⟨by omega,by simp⟩});have HS:=hid hS;obtain⟨x0,x1,x2,x3,x4,x5,x6,x7⟩:=cE hS.blk;obtain⟨z0,z1,z2,z3,z4,z5,z6,z7⟩:=jm hS.res;obtain⟨y0,y1,y2,y3,y4,y5,y6,y7⟩:=cE hS.res;unfold kn at x0 x3 x4 x5 x6 x7;clear hS AD hb1 hb2 Cv uu hm ZF hdd hX b15;go_wp2_with fail;have HP:=ER HS.out.res { items:=sl,only:=only,cy:=cy,cf:=⟨yO,yP,yQ⟩,group:=sg,having:=⟨AE,AG,AH⟩,order:=so,bU:=⟨some ⟨Cu.heap.size,0,none⟩,1,1⟩};have HR:=cE HP;unfold vH kn at HR;obtain⟨r0,r1,r2,r3,r4,r5,r6,r7⟩:=HR;refine bodyPost_ret (v:=VS { items:=sl,only:=only,cy:=cy,cf:=⟨yO,yP,yQ⟩,group:=sg,having:=⟨AE,AG,AH⟩,order:=so,bU:=⟨some ⟨Cu.heap.size,0,none⟩,1,1⟩}) ?_ rfl ?_
     ·simp[results,Tryz.results105,go_sem,r0,r1,r2,r3,r4,r5,r6,r7];rfl
     ·refine⟨{ items:=items,only:=only,cy:=cy,cf:=cf,group:=group,having:=having,order:=order,bU:=[k] },{ items:=sl,only:=only,cy:=cy,cf:=⟨yO,yP,yQ⟩,group:=sg,having:=⟨AE,AG,AH⟩,order:=so,bU:=⟨some ⟨Cu.heap.size,0,none⟩,1,1⟩},rfl,?_,?_,Qh.out.2⟩
      ·exact Qu.at_.keep (eY (by omega)) (HS.out.at_.vH (by omega) { items:=sl,only:=only,cy:=cy,cf:=⟨yO,yP,yQ⟩,group:=sg,having:=⟨AE,AG,AH⟩,order:=so,bU:=⟨some ⟨Cu.heap.size,0,none⟩,1,1⟩})
      ·rw[Qh.out.1];exact HS.out.did.vH dh (Nat.le_refl _) { items:=sl,only:=only,cy:=cy,cf:=⟨yO,yP,yQ⟩,group:=sg,having:=⟨AE,AG,AH⟩,order:=so,bU:=⟨some ⟨Cu.heap.size,0,none⟩,1,1⟩}
end Go.Proofs.YtfmbcoeallmnnaaGreatDoor.R
