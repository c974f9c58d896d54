/- Parts of the proof. -/
import Derived.Test.YtfmbcoeallmnnaaGreatDoorC34
namespace Go.Proofs.YtfmbcoeallmnnaaGreatDoor.R
open Go.Lib (hid)
open Go.ChangeShapes Go.WideShapes Go.ChangeAt Go.RowKit
set_option linter.unusedVariables false
set_option linter.unusedSimpArgs false
theorem ye:(Tryz.prog.info? 138).map (fun i=>(i.zero,i.size,i.bytes))=some (some (.agg #[.int .u8 0,.int .u8 0,.int .i64 0,.string ⟨#[]⟩,.string ⟨#[]⟩,.int .i64 0,.slice none 0 0,.string ⟨#[]⟩]),8,104):=by kernel_rfl
def Cc {α:Type}(E:El α)(lng:α→Bool)(ρ:cu)(p:Ps α)(σ:aF)(big:Bool)(y:E.β)(w w':World):Prop:=∃x:α,E.rel w' (gf w.heap.size w') x y∧dz ρ w w' (af p σ) (big || lng x)∧au p σ x
theorem nk {α:Type} {E:El α} {T:TypeId} {lng:α→Bool} {ρ:cu} {p:Ps α} {σ:aF} {big:Bool} {w0 wr w1 fF w2 W:World} {B:Nat} {v v':Value} {acc:List α} {y:E.β}(hB:w0.heap.size≤B)(hg:ρ.g < w0.heap.size)(hR:eW E T wr B v acc)(P3:B≤wr.heap.size)(hD:dz ρ w0 wr σ big)(dG:ae wr w1)(hp:Cc E lng ρ p σ big y w1 fF)(hl2:ae fF w2)(eJ:w2.grownBy W v.ownBlock)
  (ys:List E.β) (tJ:aW E.f T E.size W B v' (ys++ [y])) (P4:jd (E.rel wr (nj B v wr)) acc ys) (hv:v'.ownBlock=v.ownBlock∨v'.ownBlock=some w2.heap.size):
  ∃x:α,eW E T W B v' (acc++ [x])∧dz ρ w0 W (af p σ) (big || lng x)∧au p σ x:=by
 obtain⟨x,hx,hd,fC⟩:=hp;have II:ρ.g < B:=by omega
 have own:∀G,v.ownBlock=some G→B≤G∧G < wr.heap.size:=fun G hG=>hR.sQ hG
 refine⟨x,⟨ys++ [y],tJ,jd.append ?_ (.one ?_)⟩,?_,fC⟩
 ·exact P4.imp fun a b hab=>E.keep (mC eJ hv) (E.keep (fY hl2) (E.keep (jh hd.grown II) (E.keep (fY dG) hab)))
 ·refine E.keep (mC eJ hv) (E.keep (Ca (B:=w1.heap.size) (B':=B) (Nat.le_trans P3 dG.size) fun G hG=>?_) (E.keep (fk hl2) hx));exact Nat.lt_of_lt_of_le (own G hG).2 dG.size
 ·exact(((hD.later dG).trans hd).later hl2).own hg eJ fun G hG=>by have:=(own G hG).1;omega
theorem wC {B q:Nat} {v:Value} {w:World}(hq:q < B)(i:Nat)(u:Value):∀b,nj B v w b→(∀o,(w.setCell ⟨q,i,none⟩ u).cell? ⟨b,o,none⟩=w.cell? ⟨b,o,none⟩)∧nj B v (w.setCell ⟨q,i,none⟩ u) b:=fun b hb=>
 ⟨cell_of_heap (Below.heap_setCell w ⟨q,i,none⟩ u b (by have:=hb.1;simp;omega)),hb.1,by simpa [World.setCell] using hb.2.1,hb.2.2⟩
theorem eW.far {α:Type} {E:El α} {T:TypeId} {w:World} {B q:Nat} {v:Value} {l:List α}(h:eW E T w B v l)(hq:q < B)(i:Nat)(u:Value):eW E T (w.setCell ⟨q,i,none⟩ u) B v l:=by
 have Ck:=fun G hG=>(h.sQ (G:=G) hG).1
 obtain⟨ys,h1,h2⟩:=h.has;exact⟨ys,h1.keep fun g hg=>Below.heap_setCell w ⟨q,i,none⟩ u g (by have:=Ck g hg;simp;omega),h2.imp fun x y=>E.keep (wC hq i u)⟩
set_option maxHeartbeats 1000000
set_option maxRecDepth 100000
theorem Ce (ρ:cu)(w:World)(σ:aF)(big:Bool)(h:ρ.at w σ big)(s:ByteArray):
  Calls Tryz.prog 113 #[ρ.ptr,.string s] w fun e w'=>∃(l:List Tr) (y:Sl),e=.returned (jF y)∧my.sl w' (gf w.heap.size w') y l∧dz ρ w w' (af (dA s.data.toList) σ) big∧au (dA s.data.toList) σ l:=by
 have hm:=cT ρ w σ big h s;have cU:=h.qJ;cases hh:σ.head s.data.toList
 ·rw[hh,av hh] at hm;have HB:=hid (zz hh);clear hh;go_enter Tryz.func113,Tryz.ntmps113;go_wp2_with fail;refine hm.mono ?_;rintro e w1 ⟨rfl,d1⟩;go_wp2_with fail;go_ret;refine⟨[],Sl.nil,rfl,El.kU _ _ _,?_,HB.out.2⟩;rw[HB.out.1];exact d1
 ·rw[hh,az hh] at hm;have HH:=hid hh;clear hh;go_enter Tryz.func113,Tryz.ntmps113;go_wp2_with fail;refine hm.mono ?_;rintro e w1 ⟨rfl,d1⟩;go_wp2_with fail;refine(sM ρ _ _ big d1.at_).mono ?_;rintro e w2 ⟨t,y,rfl,ht,d2,fC⟩;unfold iL cM;go_wp2_with fail;go_ret;have hb:=BH HH.out fC;have hs:=d1.size;refine⟨[t],⟨some ⟨w2.heap.size,0,none⟩,1,1⟩,rfl,Rt (ah.new w2 _ _) ⟨by have:=d2.size;omega,by simp⟩ ((ht.later (aa w2 _)).more hs),?_,hb.2⟩;rw[hb.1];exact(d1.trans d2).later (aa w2 (jP y))
def RO:Obj:=.cells #[.slice none 0 0,.string ⟨#[]⟩,.bool false,.slice none 0 0,.slice none 0 0,.slice none 0 0,.slice none 0 0,.slice none 0 0] 59
structure ud (ρ:cu) (w:World) (big:Bool) (σ:aF) (k:Ps Qu) (wr:World) (bw:aF) (m:zB) (d:Qu):Prop where
 did:dz ρ w wr bw (big || d.long)
 blk:ah wr (w.heap.size+1) 59 (wJ m).toArray
 res:ah wr w.heap.size 59 #[.slice none 0 0,.string ⟨#[]⟩,.bool false,.slice none 0 0,.slice none 0 0,.slice none 0 0,.slice none 0 0,.slice none 0 0]
 at_:d.at_ wr (gf (w.heap.size+2) wr) m
 todo:Mc (α:=Unit) σ k bw
def kV (items:List (Tr×ByteArray)):Ps Qu:=do
 must mR
 let only ← may nZ
 let cq ← bE
 let bU ← dA mS
 let group ← jL
 let having ← dA od
 let order ← gX
 let bP ← jb
 return { items,cq,only,bU,group,having,order,bP }
theorem wD:(Tryz.prog.info? 140).map (fun i=>(i.zero,i.size,i.bytes))=some (some (.agg #[.int .u8 0,.int .u8 0,.int .i64 0,.string ⟨#[]⟩,.string ⟨#[]⟩,.int .i64 0,.slice none 0 0,.bool false]),8,96):=by kernel_rfl
structure wE (ρ:cu) (w:World) (bg:Bool) (σ:aF) (m:zB) (d:Qu) (k:Nat) (v:Value) (wr:World) (bw:aF) (acc:List (Tr×Bool)):Prop where
 pos:0 < acc.length
 few:acc.length+bw.left≤5001
 le:bw.left≤k
 row:eW js 140 wr (w.heap.size+2) v acc
 did:dz ρ w wr bw (bg || decide (64 < acc.length - 1))
 blk:ah wr (w.heap.size+1) 59 #[jF m.items,.string m.cq,.bool m.only,jF m.bU,jF m.group,jF m.having,v,jF m.bP]
 res:ah wr w.heap.size 59 #[.slice none 0 0,.string ⟨#[]⟩,.bool false,.slice none 0 0,.slice none 0 0,.slice none 0 0,.slice none 0 0,.slice none 0 0]
 at_:Qu.at_ wr (nj (w.heap.size+2) v wr) d m
 todo:ei fS σ acc bw
def ue (w:World)(q:Nat)(m:zB):World:=(((((((w.setCell ⟨q,0,none⟩ (jF m.items)).setCell ⟨q,1,none⟩ (.string m.cq)).setCell ⟨q,2,none⟩ (.bool m.only)).setCell ⟨q,3,none⟩ (jF m.bU)).setCell ⟨q,4,none⟩ (jF m.group)).setCell ⟨q,5,none⟩ (jF m.having)).setCell ⟨q,6,none⟩ (jF m.order)).setCell ⟨q,7,none⟩ (jF m.bP)
theorem Cf {w:World} {q:Nat} {T:TypeId} {a b c d e f g i:Value}(h:ah w q T #[a,b,c,d,e,f,g,i])(m:zB):ah (ue w q m) q T (wJ m).toArray:=by have:=(((((((h.cn 0 (jF m.items)).cn 1 (.string m.cq)).cn 2 (.bool m.only)).cn 3 (jF m.bU)).cn 4 (jF m.group)).cn 5 (jF m.having)).cn 6 (jF m.order)).cn 7 (jF m.bP);simp only[List.setIfInBounds_toArray,List.set_cons_zero,List.set_cons_succ] at this;exact this
theorem dz.ue {ρ:cu} {W w:World} {σ:aF} {big:Bool} {q:Nat}(h:dz ρ W w σ big)(hW:ρ.g < W.heap.size)(hq:W.heap.size≤q)(m:zB):dz ρ W (ue w q m) σ big:=
 (((((((h.far hW hq 0 _).far hW hq 1 _).far hW hq 2 _).far hW hq 3 _).far hW hq 4 _).far hW hq 5 _).far hW hq 6 _).far hW hq 7 _
theorem Qu.at_.ue {B q:Nat} {w:World} {d:Qu} {m:zB}(h:d.at_ w (gf B w) m)(hq:q < B)(m':zB):d.at_ (ue w q m') (gf B (Go.Proofs.YtfmbcoeallmnnaaGreatDoor.R.ue w q m')) m:=by
 have s:=fun(w:World) (h:d.at_ w (gf B w) m) (i:Nat) (u:Value)=>Qu.at_.keep (kj (w:=w) hq i u) h
 exact s _ (s _ (s _ (s _ (s _ (s _ (s _ (s _ h 0 _) 1 _) 2 _) 3 _) 4 _) 5 _) 6 _) 7 _
theorem NT {w:World} {S:Nat→Prop} {G:Nat} {k:Int}(h:ah w G 2 #[.int .i64 k])(hS:S G):JY.sl w S ⟨some ⟨G,0,none⟩,1,1⟩ [k]:=
 ⟨rfl,[k],zg (f:=fun k:Int=> [Value.int .i64 k]) (fun _=>rfl) h hS,.one rfl⟩
def sR (items:List (Tr×ByteArray))(only:Bool)(cq:ByteArray)(bU group having:List Tr)(order:List (Tr×Bool)):Ps Qu:=do
 let bP ← jb
 return { items,cq,only,bU,group,having,order,bP }
def Ls (items:List (Tr×ByteArray))(only:Bool)(cq:ByteArray)(bU group having:List Tr):Ps Qu:=do
 let order ← gX
 sR items only cq bU group having order
def rG (items:List (Tr×ByteArray))(only:Bool)(cq:ByteArray)(bU group:List Tr):Ps Qu:=do
 let having ← dA od
 Ls items only cq bU group having
def Lt (items:List (Tr×ByteArray))(only:Bool)(cq:ByteArray)(bU:List Tr):Ps Qu:=do
 let group ← jL
 rG items only cq bU group
def Lu (items:List (Tr×ByteArray))(only:Bool)(cq:ByteArray):Ps Qu:=do
 let bU ← dA mS
 Lt items only cq bU
def PC (items:List (Tr×ByteArray))(only:Bool):Ps Qu:=do
 let cq ← bE
 Lu items only cq
def Vj (items:List (Tr×ByteArray)):Ps Qu:=do
 let only ← may nZ
 PC items only
section
variable {ρ:cu} {w wr w2:World} {big:Bool} {σ bw:aF} {m:zB} {d:Qu}
theorem ud.later {k:Ps Qu}(A:ud ρ w big σ k wr bw m d)(hb:Below wr.heap.size wr w2):ud ρ w big σ k w2 bw m d:=
 ⟨A.did.later hb,A.blk.later hb,A.res.later hb,Qu.at_.keep (fk hb) A.at_,A.todo⟩
theorem ud.Vk {α:Type} {p:Ps α} {f:α→Ps Qu} {x:α}(A:ud ρ w big σ (p >>= f) wr bw m d)(hg:ρ.g < w.heap.size)(dd:dz ρ wr w2 (af p bw) (big || d.long))(hx:au p bw x):ud ρ w big σ (f x) w2 (af p bw) m d:=
 ⟨A.did.trans dd,dd.blk A.blk (by omega),dd.blk A.res (by omega),Qu.at_.keep (dW dd.grown (by omega)) A.at_,A.todo.go hx⟩
theorem ud.set {k:Ps Qu} {m':zB} {d':Qu}(A:ud ρ w big σ k wr bw m d)(hg:ρ.g < w.heap.size)(i:Nat)(u:Value)(hb:(wJ m').toArray=(wJ m).toArray.setIfInBounds i u)(hl:d'.long=d.long)(hat:Qu.at_ wr (gf (w.heap.size+2) wr) d' m'):ud ρ w big σ k (wr.setCell ⟨w.heap.size+1,i,none⟩ u) bw m' d':=by
 refine⟨?_,?_,A.res.far (p:=⟨w.heap.size+1,i,none⟩) (by simp) u,Qu.at_.keep (kj (by omega) i u) hat,A.todo⟩
 ·rw[hl];exact A.did.far hg (by omega) i u
 ·rw[hb];exact A.blk.cn i u
theorem ud.stay {k:Ps Qu}(A:ud ρ w big σ k wr bw m d)(hg:ρ.g < w.heap.size)(dd:dz ρ wr w2 bw (big || d.long)):ud ρ w big σ k w2 bw m d:=
 ⟨A.did.trans dd,dd.blk A.blk (by omega),dd.blk A.res (by omega),Qu.at_.keep (dW dd.grown (by omega)) A.at_,A.todo⟩
theorem ud.list {k k':Ps Qu} {m':zB} {d':Qu} {Vl:Bool} {xV:aF}(A:ud ρ w big σ k wr bw m d)(hg:ρ.g < w.heap.size)(dd:dz ρ wr w2 xV Vl)(td:Mc (α:=Unit) σ k' xV)(i:Nat)(u:Value)(hb:(wJ m').toArray=(wJ m).toArray.setIfInBounds i u)(hL:Vl=(big || d'.long))(hat:Qu.at_ w2 (gf (w.heap.size+2) w2) d m→Qu.at_ w2 (gf (w.heap.size+2) w2) d' m'):ud ρ w big σ k' (w2.setCell ⟨w.heap.size+1,i,none⟩ u) xV m' d':=by
 refine⟨?_,?_,(dd.blk A.res (by omega)).far (p:=⟨w.heap.size+1,i,none⟩) (by simp) u,Qu.at_.keep (kj (by omega) i u) (hat (Qu.at_.keep (dW dd.grown (by omega)) A.at_)),td⟩
 ·rw[← hL];exact(A.did.trans dd).far hg (by omega) i u
 ·rw[hb];exact(dd.blk A.blk (by omega)).cn i u
end
structure zL (ρ:cu) (w:World) (big:Bool) (σ:aF) (k:Nat) (v:Value) (wr:World) (bw:aF) (acc:List (Tr×ByteArray)):Prop where
 pos:0 < acc.length
 few:acc.length+bw.left≤5001
 le:bw.left≤k
 row:eW jM 138 wr (w.heap.size+2) v acc
 did:dz ρ w wr bw (big || decide (64 < acc.length - 1))
 blk:ah wr (w.heap.size+1) 59 #[v,.string ⟨#[]⟩,.bool false,.slice none 0 0,.slice none 0 0,.slice none 0 0,.slice none 0 0,.slice none 0 0]
 res:ah wr w.heap.size 59 #[.slice none 0 0,.string ⟨#[]⟩,.bool false,.slice none 0 0,.slice none 0 0,.slice none 0 0,.slice none 0 0,.slice none 0 0]
 todo:ei gJ σ acc bw
theorem Eg (ρ:cu)(w:World)(σ:aF)(big:Bool)(h:ρ.at w σ big):
  Calls Tryz.prog 105 #[ρ.ptr] w fun e w'=>∃(d:Qu) (y:zB),e=.returned (Rq y)∧d.at_ w' (gf w.heap.size w') y∧dz ρ w w' (af kK σ) (big || d.long)∧au kK σ d:=by
 have cU:=h.qJ;have hb:=ae.then (aa w RO) (aa _ RO)
 have hb2:=ae.then hb (aa _ (.cells (aR [dc]) 9))
 have h0:=h.later hb2;have HQ:=hid (((ah.new w 59 #[.slice none 0 0,.string ⟨#[]⟩,.bool false,.slice none 0 0,.slice none 0 0,.slice none 0 0,.slice none 0 0,.slice none 0 0]).alloc RO).alloc (.cells (aR [dc]) 9));have Lv:=ah.new (w.alloc RO) 59 #[.slice none 0 0,.string ⟨#[]⟩,.bool false,.slice none 0 0,.slice none 0 0,.slice none 0 0,.slice none 0 0,.slice none 0 0];rw[World.size_alloc] at Lv;have HL:=hid (Lv.alloc (.cells (aR [dc]) 9));have Yj:=ah.new ((w.alloc RO).alloc RO) 9 (aR [dc]);rw[World.size_alloc,World.size_alloc] at Yj;clear Lv;unfold RO at*;go_enter Tryz.func105,Tryz.ntmps105;go_wp2_with fail;refine(dm ρ _ σ big h0 [dc] (w.heap.size+2) 1 rfl Yj (by omega) (by omega)).mono ?_;rintro e w1 ⟨rfl,d1⟩;simp only[br] at d1;have hA:ud ρ w big σ (do let items ← lS;kV items) w1 (af (must dc) σ) {} {}:=
  ⟨by simpa [Qu.long] using(dz.bH h hb2).trans d1,HL.out.grown d1.grown (by simp;omega),HQ.out.grown d1.grown (by simp;omega),Qu.sN _ _,(Mc.start σ).go (p:=must dc) (f:=fun _=>do let items ← lS;kV items) (x:=()) (bF _ _)⟩
 clear HL HQ Yj h0 d1 hb2;have HA:=hid hA;clear hA;generalize af (must dc) σ=gP at*;have hm:=cT ρ w1 gP _ HA.out.did.at_ ⟨#[42]⟩;go_upto_if 9 with fail
 refine hm.mono ?_;rintro e w3 ⟨rfl,d3⟩;rw[show gP.head (⟨#[42]⟩:ByteArray).data.toList=gP.head dZ from rfl];have d3:dz ρ w1 w3 (af (may dZ) gP) _:=d3;go_upto_if 9 with fail
 go_cut [] (fun wx=>∃(items:List (Tr×ByteArray)) (sl:Sl) (bw:aF),ud ρ w big σ (kV items) wx bw { items:=sl } { items:=items });case first=>
  cases hst:gP.head dZ
  ·have HST:=hid hst;rw[av hst] at d3;clear hst;have A3:ud ρ w big σ _ w3 gP {} {}:=⟨HA.out.did.trans d3,d3.blk HA.out.blk (by omega),d3.blk HA.out.res (by omega),Qu.at_.keep (dW d3.grown (by omega)) HA.out.at_,HA.out.todo⟩;have VZ:dz ρ w w3 gP big:=by simpa [Qu.long] using A3.did
   have hw3:=A3.blk.lt;have Yk:=hid A3;clear d3 hm HA;go_wp2_with fail;refine kq (P:=Tryz.prog) (f:=xW) (val:=NA) (e:=138) (size:=8) (base:=w.heap.size+2) (l:=[]) (lv:=.slice none 0 0) (Post:=Cc jM (fun _=>false) ρ gJ gP big) (w0:=w3) (q:=3) (d0:=10) (d1:=11) (d2:=12) (d3:=13) (d4:=14) (d5:=15) (d6:=16) (qb:=w.heap.size+1) (k:=0) (g:=ρ.g) (pq:=.pointer (some ⟨w.heap.size+1,0,none⟩)) (ptr:=ρ.ptr) (F:=127) (args:= #[ρ.ptr]) 55 55 _ 104 (by kernel_rfl) (by kernel_rfl) (by kernel_rfl) (by kernel_rfl) (by kernel_rfl) rfl rfl ?_ ?_ ?_ ?_ ?_ ?_ ?_ Tryz.underlying55 ye rfl (by omega) (fun _=>rfl) (by intro y u hu;simp[xW,cM] at hu;rcases hu with rfl | rfl | rfl | rfl | rfl | rfl | rfl | rfl <;> rfl) aW.nil ?_ (by omega) ?_ ?_ ?_ ?_ (by omega) ?_ ?_ ?_
   ·intro ρ' w' h';simp[go_sem,h']
   ·intro ρ' w' h';simp[go_sem,h']
   ·intro ρ' w' h' hc';simp[go_sem,h',hc']
   ·intro ρ' w' h';simp[go_sem,h']
   ·intro ρ' w' hc' h';simp[go_sem,h',hc'.const,hc'.func]
   ·intro ρ' w' y' h';simp[go_sem,h',NA,xW,cM]
   ·intro ρ' w' s' v' Ih jS rH iO;simp only[execOp,resolve,invoke,builtin,Sem.run_bind,Sem.run_pure,Result.andThen_ok,List.map_toArray,List.map_cons,List.map_nil,jS,rH,iO]
   ·exact A3.blk.cell 0
   ·simp[Value.ownBlock]
   ·simp[Value.ownBlock]
   ·simp
   ·simp
   ·intro w' hw';refine(ya ρ w' gP big (VZ.at_.later hw')).mono ?_;rintro e w'' ⟨x,y,rfl,hx,hd,hv⟩;exact⟨y,rfl,x,hx,hd,hv⟩
   ·rintro y w' w'' ⟨x,hx,hd,hv⟩;exact hd.grown
   ·intro y s v' w4 Yl w5 W dG hp hl2 uh eJ tJ lL gR;obtain⟨_,_,dd,_⟩:=id hp;have hs1:=dG.size;have hs2:=dd.size;have hs3:=hl2.size;obtain⟨x,hgr,hdd,fC⟩:=nk (E:=jM) (T:=138) (lng:=fun _=>false) (B:=w.heap.size+2) (acc:=[]) (by omega) cU (eW.nil jM 138 w3 (w.heap.size+2)) (by omega) VZ dG hp hl2 eJ [] tJ .nil lL;obtain⟨⟨A,n,c⟩,jV,pJ,_⟩:=hgr.sl (B':=w.heap.size) (by omega);replace jV:v'=.slice A n c:=jV;subst jV;have HX:=(((Yk.out.blk.later dG).grown dd.grown (by simp;omega)).later hl2).later (eV eJ);have HR:=(((Yk.out.res.later dG).grown dd.grown (by simp;omega)).later hl2).later (eV eJ);have Hf:=HX.frozen 0;have nV:=HX.cn 0 (.slice A n c);have CF:=HR.far (p:=⟨w.heap.size+1,0,none⟩) (by simp) (.slice A n c);have P5:=HX.lt;unfold wJ at nV;simp only[List.setIfInBounds_toArray,List.set_cons_succ,List.set_cons_zero] at nV;have hI:zL ρ w big gP 5000 (.slice A n c) (W.setCell ⟨w.heap.size+1,0,none⟩ (.slice A n c)) (af gJ gP) [x]:=by have hl:=aF.bh fW gP;have Bl:=VZ.at_.left;have hsm:=VZ.at_.small;refine⟨by simp,by simp;omega,by omega,hgr.far (by omega) 0 (.slice A n c),?_,nV,CF,ei.start fC⟩;have:=hdd.far cU (show w.heap.size≤w.heap.size+1 by omega) 0 (.slice A n c);simpa using this
    have HI:=hid hI;clear hI hgr hdd fC HX HR nV CF tJ lL uh hp dd dG hl2 pJ;simp only[Act.put,List.setIfInBounds_toArray,List.set_cons_succ,List.set_cons_zero];go_wp2_with fail;clear Hf gR;generalize W.setCell ⟨w.heap.size+1,0,none⟩ (.slice A n c)=W4 at*;go_loopg [] 5000 (fun k wr=>∃bw acc u,zL ρ w big gP k u wr bw acc);case atStart=>exact⟨_,_,_,HI.out⟩
    case round=>
     obtain⟨bw,acc,u,hE⟩:=hrel;obtain⟨⟨A2,n2,c2⟩,jV,pJ,_⟩:=hE.row.sl (B':=w.heap.size) (by omega);replace jV:u=.slice A2 n2 c2:=jV;replace pJ:n2=acc.length:=pJ;subst jV;have Fg:=hid pJ;have wI:0 < n2:=by have:=hE.pos;omega
     have uN:n2≤5001:=by have:=hE.few;omega
     have x0:=hE.blk.cell 0;simp only[List.getElem?_toArray,List.getElem?_cons_zero,List.getElem?_cons_succ] at x0;have Ym:=hE.blk.lt;have HE:=hid hE;clear hE pJ HI;go_wp2_with fail;refine(sH ρ wr bw _ HE.out.did.at_ n2 (by omega)).mono ?_;rintro e w8 ⟨rfl,d8⟩;have UK:=d8.size;cases hh:bw.head aU
     ·rw[av hh] at d8;have hdone:=ei.done fW HE.out.todo hh;have hit:=DV HST.out hdone.2;obtain⟨hb1,hb2⟩:=hit;have Ia:=HE.out.did.trans d8;rw[Fg.out,mD] at Ia;have hrow:=HE.out.row.grown d8.grown (by omega);obtain⟨Vm,Lx,_,Cg⟩:=hrow.sl (B':=w.heap.size+2) (Nat.le_refl _);have hQ:ud ρ w big σ (kV acc) w8 bw { items:=Vm } { items:=acc }:=by
       refine⟨?_,?_,d8.blk HE.out.res (by omega),?_,?_⟩
       ·have:Qu.long { items:=acc }=decide (64 < acc.length):=by simp[Qu.long]
        rw[this];exact Ia
       ·have:=d8.blk HE.out.blk (by omega);rw[Lx] at this;exact this
       ·exact { Qu.sN w8 _ with items:=Cg }
       ·have:=(Yk.out.todo).go hb2;rw[hb1,hdone.1] at this;exact this
      have wb:=hid hQ;clear hQ Cg Lx hrow Ia hb1 hb2 hdone d8 hh;go_wp2_with fail;go_meet;exact⟨acc,Vm,bw,wb.out⟩
     ·rw[az hh] at d8;obtain⟨l1,l2,l3⟩:=je hh;have vP:=hid hh;have hR:=HE.out.row.grown d8.grown (by omega);have NU:=d8.blk HE.out.blk (by omega);have Vn:=d8.blk HE.out.res (by omega);have Ia:=HE.out.did.trans d8;obtain⟨ys,ho,ha⟩:∃ys:List (Ex×ByteArray),aW xW 138 8 w8 (w.heap.size+2) (Value.slice A2 n2 c2) ys∧jd (jM.rel w8 (nj (w.heap.size+2) (Value.slice A2 n2 c2) w8)) acc ys:=hR.has;have RG:(ys:List (Ex×ByteArray)).length=acc.length:=ha.len;have Vi:ys.length≤5001:=by have:=HE.out.few;omega
      have how:=fun G hG=>hR.sQ (G:=G) hG
      have Yn:=NU.lt;clear RG hh;go_wp2_with fail;refine kq (P:=Tryz.prog) (f:=xW) (val:=NA) (e:=138) (size:=8) (base:=w.heap.size+2) (l:=ys) (lv:=.slice A2 n2 c2) (Post:=Cc jM (fun _=>false) ρ gJ (.good bw.words.tail) ((big || decide (64 < acc.length - 1))|| decide (64 < n2))) (w0:=w8) (q:=3) (d0:=22) (d1:=23) (d2:=24) (d3:=25) (d4:=26) (d5:=27) (d6:=28) (qb:=w.heap.size+1) (k:=0) (g:=ρ.g) (pq:=.pointer (some ⟨w.heap.size+1,0,none⟩)) (ptr:=ρ.ptr) (F:=127) (args:= #[ρ.ptr]) 55 55 _ 104 (by kernel_rfl) (by kernel_rfl) (by kernel_rfl) (by kernel_rfl) (by kernel_rfl) rfl rfl ?_ ?_ ?_ ?_ ?_ ?_ ?_ Tryz.underlying55 ye rfl (by omega) (fun _=>rfl) (by intro y u hu;simp[xW,cM] at hu;rcases hu with rfl | rfl | rfl | rfl | rfl | rfl | rfl | rfl <;> rfl) ho ?_ (by omega) ?_ ?_ ?_ ?_ (by omega) ?_ ?_ ?_
      ·intro ρ' w' h';simp[go_sem,h']
      ·intro ρ' w' h';simp[go_sem,h']
      ·intro ρ' w' h' hc';simp[go_sem,h',hc']
      ·intro ρ' w' h';simp[go_sem,h']
      ·intro ρ' w' hc' h';simp[go_sem,h',hc'.const,hc'.func]
      ·intro ρ' w' y' h';simp[go_sem,h',NA,xW,cM]
      ·intro ρ' w' s' v' Ih jS rH iO;simp only[execOp,resolve,invoke,builtin,Sem.run_bind,Sem.run_pure,Result.andThen_ok,List.map_toArray,List.map_cons,List.map_nil,jS,rH,iO]
      ·exact NU.cell 0
      ·intro e';have:=(how _ e').1;omega
      ·intro e';have:=(how _ e').1;omega
      ·omega
      ·omega
      ·intro w' hw';refine(ya ρ w' (.good bw.words.tail) _ (d8.at_.later hw')).mono ?_;rintro e w'' ⟨x,y,rfl,hx,hd,hv⟩;exact⟨y,rfl,x,hx,hd,hv⟩
      ·rintro y w' w'' ⟨x,hx,hd,hv⟩;exact hd.grown
      ·intro y9 s9 v9 w4 Yl w5 W9 dG hp hl2 uh eJ tJ lL gR;obtain⟨_,_,dd,_⟩:=id hp;have hs1:=dG.size;have hs2:=dd.size;have hs3:=hl2.size;obtain⟨x9,hgr,hdd,fC⟩:=nk (E:=jM) (T:=138) (lng:=fun _=>false) (B:=w.heap.size+2) (acc:=acc) (by omega) cU hR (by omega) Ia dG hp hl2 eJ ys tJ ha lL;obtain⟨⟨A9,n9,c9⟩,jV,RP,_⟩:=hgr.sl (B':=w.heap.size) (by omega);replace jV:v9=.slice A9 n9 c9:=jV;subst jV;have RQ:∀(q:Nat),q < w.heap.size+2→some q≠(Value.slice A2 n2 c2).ownBlock:=fun q hq e'=>by have:=(how q e'.symm).1;omega
       have HX:=(((NU.later dG).grown dd.grown (by simp;omega)).later hl2).grown eJ (RQ _ (by omega));have HR:=(((Vn.later dG).grown dd.grown (by simp;omega)).later hl2).grown eJ (RQ _ (by omega));have Hf:=HX.frozen 0;have nV:=HX.cn 0 (.slice A9 n9 c9);have CF:=HR.far (p:=⟨w.heap.size+1,0,none⟩) (by simp) (.slice A9 n9 c9);simp only[List.setIfInBounds_toArray,List.set_cons_succ,List.set_cons_zero] at nV;have C2:=aF.bh fW (aF.good bw.words.tail);have hI:zL ρ w big gP (af gJ (.good bw.words.tail)).left (.slice A9 n9 c9) (W9.setCell ⟨w.heap.size+1,0,none⟩ (.slice A9 n9 c9)) (af gJ (.good bw.words.tail)) (acc++ [x9]):=by refine⟨by simp,by have:=HE.out.few;simp;omega,Nat.le_refl _,hgr.far (by omega) 0 (.slice A9 n9 c9),?_,nV,CF,ei.go fW HE.out.todo vP.out fC⟩;have:=hdd.far cU (show w.heap.size≤w.heap.size+1 by omega) 0 (.slice A9 n9 c9);rw[Fg.out,mD,Bool.or_false] at this;rw[List.length_append,List.length_singleton,Nat.add_sub_cancel];exact this
       have Yo:=hid hI;clear hI hgr hdd fC HX HR nV CF tJ lL uh hp dd dG hl2 RP eJ hR NU Vn Ia ha ho how RQ;simp only[Act.put,List.setIfInBounds_toArray,List.set_cons_succ,List.set_cons_zero];go_wp2_with fail;go_roundg (af gJ (aF.good bw.words.tail)).left;case measure=>have:=HE.out.le;omega
       case rel=>exact⟨_,_,_,Yo.out⟩
  ·rw[az hst] at d3;obtain⟨hb1,hb2⟩:=DU hst;have hQ:ud ρ w big σ (kV []) w3 (.good gP.words.tail) { items:=Sl.nil } { items:=[] }:=by refine⟨HA.out.did.trans d3,d3.blk HA.out.blk (by omega),d3.blk HA.out.res (by omega),Qu.at_.keep (dW d3.grown (by omega)) HA.out.at_,?_⟩;have:=(HA.out.todo).go hb2;rw[hb1] at this;exact this
   have wb:=hid hQ;clear hQ hb1 hb2 d3 hst hm;go_wp2_with fail;go_meet;exact⟨[],Sl.nil,_,wb.out⟩
 case rest=>
  obtain⟨items,sl,xV,hQ⟩:=hcut;clear hm d3 HA hb;have bf:=aa wc (.cells (aR [mR]) 9);have C6:=hQ.later bf;have GY:=hQ.blk.lt;have Co:=hid C6;clear hQ C6;go_wp2_with fail;refine(dm ρ _ xV _ Co.out.did.at_ [mR] wc.heap.size 1 rfl (ah.new _ _ _) (by omega) (by omega)).mono ?_;rintro e w4 ⟨rfl,d4⟩;simp only[br] at d4;have C7:=Co.out.Vk (p:=must mR) (f:=fun _=>Vj items) (x:=()) cU d4 (bF _ _);have zo:=hid C7;clear C7 d4 Co bf;generalize af (must mR) xV=SJ at*;go_wp2_with fail;refine(cT ρ _ SJ _ zo.out.did.at_ ⟨#[111,110,108,121]⟩).mono ?_;rintro e w5 ⟨rfl,d5⟩;rw[show SJ.head (⟨#[111,110,108,121]⟩:ByteArray).data.toList=SJ.head nZ from rfl];have Vo:=zo.out.Vk (p:=may nZ) (f:=fun only=>PC items only) (x:=SJ.head nZ) cU d5 (aG _ _);generalize af (may nZ) SJ=C8 at*;generalize SJ.head nZ=only at*;have C9:=Vo.set (m':= { items:=sl,only:=only }) (d':= { items:=items,only:=only }) cU 2 (.bool only) rfl rfl { Vo.at_ with only:=rfl };have hf2:=Vo.blk.frozen 2;have hc2:=Vo.blk.cell 2;have Fq:=hid C9;clear Vo C9 d5 zo;go_wp2_with fail;clear hf2 hc2;generalize w5.setCell ⟨w.heap.size+1,2,none⟩ (.bool only)=W6 at*;refine(oT ρ _ C8 _ Fq.out.did.at_).mono ?_;rintro e w6 ⟨cq,rfl,d6,xc⟩;have Vp:=Fq.out.Vk (p:=bE) (f:=fun cq=>Lu items only cq) (x:=cq) cU d6 xc;generalize af bE C8=D4 at*;have D5:=Vp.set (m':= { items:=sl,only:=only,cq:=cq }) (d':= { items:=items,only:=only,cq:=cq }) cU 1 (.string cq) rfl rfl { Vp.at_ with cq:=rfl };have OC:=Vp.blk.frozen 1;have hc1:=Vp.blk.cell 1;have qB:=hid D5;clear Vp D5 d6 xc Fq;go_wp2_with fail;clear OC hc1;generalize w6.setCell ⟨w.heap.size+1,1,none⟩ (.string cq)=W7 at*;refine(Ce ρ _ D4 _ qB.out.did.at_ ⟨#[119,104,101,114,101]⟩).mono ?_;rintro e w7 ⟨bU,sw,rfl,hsw,d7,eJ⟩;have U8:=qB.out.did.size;have U9:=qB.out.blk.lt;have Vq:=qB.out.Vk (p:=dA mS) (f:=fun bU=>Lt items only cq bU) (x:=bU) cU d7 eJ;generalize Yr:af (dA mS) D4=SK at*;clear Yr;have D7:=Vq.set (m':= { items:=sl,only:=only,cq:=cq,bU:=sw }) (d':= { items:=items,only:=only,cq:=cq,bU:=bU }) cU 3 (jF sw) rfl rfl { Vq.at_ with bU:=El.lies.more hsw (by omega)};have hf3:=Vq.blk.frozen 3;have hc3:=Vq.blk.cell 3;have Bz:=hid D7;clear Vq D7 d7 eJ hsw qB;obtain⟨wK,wL,wM⟩:=sw;unfold jF at*;go_upto_if 42 with fail
  clear hf3 hc3;generalize w7.setCell ⟨w.heap.size+1,3,none⟩ (.slice wK wL wM)=W8 at*;refine(cT ρ _ SK _ Bz.out.did.at_ ⟨#[103,114,111,117,112]⟩).mono ?_;rintro e w8 ⟨rfl,d8⟩;rw[show SK.head (⟨#[103,114,111,117,112]⟩:ByteArray).data.toList=SK.head jo from rfl];have d8:dz ρ W8 w8 (af (may jo) SK) _:=d8;go_upto_if 42 with fail
  go_cut [] (fun wx=>∃(group:List Tr) (sg:Sl) (bw:aF),ud ρ w big σ (rG items only cq bU group) wx bw { items:=sl,only:=only,cq:=cq,bU:=⟨wK,wL,wM⟩,group:=sg } { items:=items,only:=only,cq:=cq,bU:=bU,group:=group });case first=>
   cases hgr:SK.head jo
   ·rw[av hgr] at d8;obtain⟨hb1,hb2⟩:=BN hgr;have hS:=Bz.out.stay cU d8;have yf:=hS.todo.go (p:=jL) (f:=fun group=>rG items only cq bU group) hb2;rw[hb1] at yf;have NV:=hid (show ud ρ w big σ (rG items only cq bU []) w8 SK { items:=sl,only:=only,cq:=cq,bU:=⟨wK,wL,wM⟩,group:=Sl.nil } { items:=items,only:=only,cq:=cq,bU:=bU,group:=[] } from⟨hS.did,hS.blk,hS.res,hS.at_,yf⟩);clear hS yf hb1 hb2 d8 hgr Bz;go_wp2_with fail;go_meet;exact⟨[],Sl.nil,_,NV.out⟩
   ·rw[az hgr] at d8;have TY:=hid hgr;clear hgr;have b8:=aa w8 (.cells (aR [vr]) 9);have V0:=(d8.blk Bz.out.blk (by omega)).lt;go_wp2_with fail;refine(dm ρ _ _ _ (d8.at_.later b8) [vr] w8.heap.size 1 rfl (ah.new _ _ _) (by omega) (by omega)).mono ?_;rintro e w9 ⟨rfl,d9⟩;simp only[br] at d9;have UK:=d8.size;have Vr:=d9.size;go_wp2_with fail;refine(Ef ρ _ _ _ d9.at_).mono ?_;rintro e oW ⟨group,sg,rfl,Ko,Cp,fC⟩;have Ys:=DX TY.out fC;have hdd:=((d8.later b8).trans d9).trans Cp;have hX:=hdd.blk Bz.out.blk (by omega);have V1:=hX.frozen 4;have V2:=hX.cell 4;obtain⟨Yt,Yu,Yv⟩:=sg;have yf:=Bz.out.todo.go (p:=jL) (f:=fun group=>rG items only cq bU group) Ys.2;rw[Ys.1] at yf;have D8:=Bz.out.list (m':= { items:=sl,only:=only,cq:=cq,bU:=⟨wK,wL,wM⟩,group:=⟨Yt,Yu,Yv⟩}) (d':= { items:=items,only:=only,cq:=cq,bU:=bU,group:=group }) cU hdd yf 4 (.slice Yt Yu Yv) rfl (by simp[Qu.long,Bool.or_assoc]) (fun hat=> { hat with group:=El.lies.more Ko (by simp at Vr;omega)});have NV:=hid D8;clear D8 yf hX hdd Ys Ko Cp fC d9 b8 d8 Bz;unfold jF;go_wp2_with fail;go_meet;exact⟨group,⟨Yt,Yu,Yv⟩,_,NV.out⟩
  case rest=>
   obtain⟨group,sg,D9,hQ⟩:=hcut;clear d8 Bz;have NV:=hid hQ;clear hQ;go_wp2_with fail;refine(Ce ρ _ D9 _ NV.out.did.at_ ⟨#[104,97,118,105,110,103]⟩).mono ?_;rintro e P6 ⟨having,sh,rfl,OD,E0,E1⟩;have P7:=NV.out.did.size;have P8:=NV.out.blk.lt;have Lz:=NV.out.Vk (p:=dA od) (f:=fun having=>Ls items only cq bU group having) (x:=having) cU E0 E1;generalize Yw:af (dA od) D9=RR at*;clear Yw;obtain⟨yg,yh,yi⟩:=sh;have Vs:=Lz.set (m':= { items:=sl,only:=only,cq:=cq,bU:=⟨wK,wL,wM⟩,group:=sg,having:=⟨yg,yh,yi⟩}) (d':= { items:=items,only:=only,cq:=cq,bU:=bU,group:=group,having:=having }) cU 5 (.slice yg yh yi) rfl rfl { Lz.at_ with having:=El.lies.more OD (by omega)};have P9:=Lz.blk.frozen 5;have Q0:=Lz.blk.cell 5;have wF:=hid Vs;clear Lz Vs E0 E1 OD NV;unfold jF;go_upto_if 53 with fail
   clear P9 Q0;generalize P6.setCell ⟨w.heap.size+1,5,none⟩ (.slice yg yh yi)=Q1 at*;refine(cT ρ _ RR _ wF.out.did.at_ ⟨#[111,114,100,101,114]⟩).mono ?_;rintro e Nw ⟨rfl,mG⟩;rw[show RR.head (⟨#[111,114,100,101,114]⟩:ByteArray).data.toList=RR.head jq from rfl];have mG:dz ρ Q1 Nw (af (may jq) RR) _:=mG;go_upto_if 53 with fail
   go_cut [] (fun wx=>∃(order:List (Tr×Bool)) (so:Sl) (bw:aF),ud ρ w big σ (sR items only cq bU group having order) wx bw { items:=sl,only:=only,cq:=cq,bU:=⟨wK,wL,wM⟩,group:=sg,having:=⟨yg,yh,yi⟩,order:=so } { items:=items,only:=only,cq:=cq,bU:=bU,group:=group,having:=having,order:=order });case first=>
    cases IB:RR.head jq
    ·rw[av IB] at mG;obtain⟨hb1,hb2⟩:=zF IB;have hS:=wF.out.stay cU mG;have yf:=hS.todo.go (p:=gX) (f:=fun order=>sR items only cq bU group having order) hb2;rw[hb1] at yf;have zM:=hid (show ud ρ w big σ (sR items only cq bU group having []) Nw RR { items:=sl,only:=only,cq:=cq,bU:=⟨wK,wL,wM⟩,group:=sg,having:=⟨yg,yh,yi⟩,order:=Sl.nil } { items:=items,only:=only,cq:=cq,bU:=bU,group:=group,having:=having,order:=[] } from⟨hS.did,hS.blk,hS.res,hS.at_,yf⟩);clear hS yf hb1 hb2 mG IB wF;go_wp2_with fail;go_meet;exact⟨[],Sl.nil,_,zM.out⟩
    ·skip
     rw[az IB] at mG;have OA:=hid IB;clear IB;have Dz:=aa Nw (.cells (aR [vr]) 9);have Q2:=(mG.blk wF.out.blk (by omega)).lt;go_wp2_with fail;refine(dm ρ _ _ _ (mG.at_.later Dz) [vr] Nw.heap.size 1 rfl (ah.new _ _ _) (by omega) (by omega)).mono ?_;rintro e zQ ⟨rfl,sL⟩;simp only[br] at sL;have Ny:=mG.size;have BC:=sL.size;have hdd:=(mG.later Dz).trans sL;have hX:=hdd.blk wF.out.blk (by omega);have E2:=hdd.blk wF.out.res (by omega);have PD:=Qu.at_.keep (dW hdd.grown (by omega)) wF.out.at_;have LA:=wF.out.did.trans hdd;have E3:=hX.lt;have Q3:=hid wF.out.todo;clear mG sL Dz hdd wF;generalize E4:af (must vr) (aF.good RR.words.tail)=RS at*;have Vt:=hid E4;clear E4;generalize hbg:(big || Qu.long { items:=items,only:=only,cq:=cq,bU:=bU,group:=group,having:=having })=bg at*;have Q4:=hid hbg;clear hbg;go_wp2_with fail;refine kq (P:=Tryz.prog) (f:=Fw) (val:=SI) (e:=140) (size:=8) (base:=w.heap.size+2) (l:=[]) (lv:=.slice none 0 0) (Post:=Cc js (fun _=>false) ρ fS RS bg) (w0:=zQ) (q:=3) (d0:=57) (d1:=58) (d2:=59) (d3:=60) (d4:=61) (d5:=62) (d6:=63) (qb:=w.heap.size+1) (k:=6) (g:=ρ.g) (pq:=.pointer (some ⟨w.heap.size+1,0,none⟩)) (ptr:=ρ.ptr) (F:=129) (args:= #[ρ.ptr]) 56 56 _ 96 (by kernel_rfl) (by kernel_rfl) (by kernel_rfl) (by kernel_rfl) (by kernel_rfl) rfl rfl ?_ ?_ ?_ ?_ ?_ ?_ ?_ Tryz.underlying56 wD rfl (by omega) (fun _=>rfl) (by intro y u hu;simp[Fw,cM] at hu;rcases hu with rfl | rfl | rfl | rfl | rfl | rfl | rfl | rfl <;> rfl) aW.nil ?_ (by omega) ?_ ?_ ?_ ?_ (by omega) ?_ ?_ ?_
     ·intro ρ' w' h';simp[go_sem,h']
     ·intro ρ' w' h';simp[go_sem,h']
     ·intro ρ' w' h' hc';simp[go_sem,h',hc']
     ·intro ρ' w' h';simp[go_sem,h']
     ·intro ρ' w' hc' h';simp[go_sem,h',hc'.const,hc'.func]
     ·intro ρ' w' y' h';simp[go_sem,h',SI,Fw,cM]
     ·intro ρ' w' s' v' Ih jS rH iO;simp only[execOp,resolve,invoke,builtin,Sem.run_bind,Sem.run_pure,Result.andThen_ok,List.map_toArray,List.map_cons,List.map_nil,jS,rH,iO]
     ·exact hX.cell 6
     ·simp[Value.ownBlock]
     ·simp[Value.ownBlock]
     ·simp
     ·simp
     ·intro w' hw';refine(wB ρ w' RS bg (LA.at_.later hw')).mono ?_;rintro e w'' ⟨x,y,rfl,hx,hd,hv⟩;exact⟨y,rfl,x,hx,hd,hv⟩
     ·rintro y w' w'' ⟨x,hx,hd,hv⟩;exact hd.grown
     ·intro y s v' w4 Yl w5 W dG hp hl2 uh eJ tJ lL gR;obtain⟨_,_,dd,_⟩:=id hp;have hs1:=dG.size;have hs2:=dd.size;have hs3:=hl2.size;obtain⟨x,hgr,hdd,fC⟩:=nk (E:=js) (T:=140) (lng:=fun _=>false) (B:=w.heap.size+2) (acc:=[]) (by omega) cU (eW.nil js 140 zQ (w.heap.size+2)) (by omega) LA dG hp hl2 eJ [] tJ .nil lL;obtain⟨⟨A,n,c⟩,jV,pJ,_⟩:=hgr.sl (B':=w.heap.size) (by omega);replace jV:v'=.slice A n c:=jV;subst jV;have HX:=(((hX.later dG).grown dd.grown (by simp;omega)).later hl2).later (eV eJ);have HR:=(((E2.later dG).grown dd.grown (by simp;omega)).later hl2).later (eV eJ);have Vu:Qu.at_ zQ (nj (w.heap.size+2) (.slice none 0 0) zQ) _ _:=Qu.at_.keep (fun b hb=>⟨fun _=>rfl,hb.1,hb.2,by simp[Value.ownBlock]⟩) PD;have LB:=Qu.at_.keep (wC (show w.heap.size+1 < w.heap.size+2 by omega) 6 (.slice A n c)) (Qu.at_.keep (mC eJ lL) (Qu.at_.keep (fY hl2) (Qu.at_.keep (jh dd.grown (by omega)) (Qu.at_.keep (fY dG) Vu))));have Hf:=HX.frozen 6;have nV:=HX.cn 6 (.slice A n c);have CF:=HR.far (p:=⟨w.heap.size+1,6,none⟩) (by simp) (.slice A n c);have P5:=HX.lt;unfold wJ at nV;simp only[List.setIfInBounds_toArray,List.set_cons_succ,List.set_cons_zero] at nV;have hI:wE ρ w bg RS { items:=sl,only:=only,cq:=cq,bU:=⟨wK,wL,wM⟩,group:=sg,having:=⟨yg,yh,yi⟩} { items:=items,only:=only,cq:=cq,bU:=bU,group:=group,having:=having } 5000 (.slice A n c) (W.setCell ⟨w.heap.size+1,6,none⟩ (.slice A n c)) (af fS RS) [x]:=by have hl:=aF.bh fX RS;have Bl:=LA.at_.left;have hsm:=LA.at_.small;refine⟨by simp,by simp;omega,by omega,hgr.far (by omega) 6 (.slice A n c),?_,nV,CF,LB,ei.start fC⟩;have:=hdd.far cU (show w.heap.size≤w.heap.size+1 by omega) 6 (.slice A n c);simpa using this
      have HI:=hid hI;clear hI hgr hdd fC HX HR nV CF tJ lL uh hp dd dG hl2 pJ LB Vu PD hX E2 LA;simp only[Act.put,List.setIfInBounds_toArray,List.set_cons_succ,List.set_cons_zero];go_wp2_with fail;clear Hf gR;generalize W.setCell ⟨w.heap.size+1,6,none⟩ (.slice A n c)=W4 at*;go_loopg [] 5000 (fun k wr=>∃bw acc u,wE ρ w bg RS { items:=sl,only:=only,cq:=cq,bU:=⟨wK,wL,wM⟩,group:=sg,having:=⟨yg,yh,yi⟩} { items:=items,only:=only,cq:=cq,bU:=bU,group:=group,having:=having } k u wr bw acc);case atStart=>exact⟨_,_,_,HI.out⟩
      case round=>
       obtain⟨bw,acc,u,hE⟩:=hrel;obtain⟨⟨A2,n2,c2⟩,jV,pJ,_⟩:=hE.row.sl (B':=w.heap.size) (by omega);replace jV:u=.slice A2 n2 c2:=jV;replace pJ:n2=acc.length:=pJ;subst jV;have Fg:=hid pJ;have wI:0 < n2:=by have:=hE.pos;omega
       have uN:n2≤5001:=by have:=hE.few;omega
       have x6:=hE.blk.cell 6;simp only[List.getElem?_toArray,List.getElem?_cons_zero,List.getElem?_cons_succ] at x6;have Ym:=hE.blk.lt;have HE:=hid hE;clear hE pJ HI;go_wp2_with fail;refine(sH ρ wr bw _ HE.out.did.at_ n2 (by omega)).mono ?_;rintro e w8 ⟨rfl,d8⟩;have UK:=d8.size;cases hh:bw.head aU
       ·rw[av hh] at d8;have hdone:=ei.done fX HE.out.todo hh;have LP:=BO OA.out (l:=acc) (by rw[Vt.out];exact hdone.2);rw[Vt.out] at LP;obtain⟨hb1,hb2⟩:=LP;have Ia:=HE.out.did.trans d8;rw[Fg.out,mD] at Ia;have hrow:=HE.out.row.grown d8.grown (by omega);have LC:=Qu.at_.keep (Cb (Nat.le_refl _)) (Qu.at_.keep (jh d8.grown (by omega)) HE.out.at_);obtain⟨Vm,Lx,_,Cg⟩:=hrow.sl (B':=w.heap.size+2) (Nat.le_refl _);have hQ:ud ρ w big σ (sR items only cq bU group having acc) w8 bw { items:=sl,only:=only,cq:=cq,bU:=⟨wK,wL,wM⟩,group:=sg,having:=⟨yg,yh,yi⟩,order:=Vm } { items:=items,only:=only,cq:=cq,bU:=bU,group:=group,having:=having,order:=acc }:=by
         refine⟨?_,?_,d8.blk HE.out.res (by omega),?_,?_⟩
         ·rw[show(big || Qu.long { items:=items,only:=only,cq:=cq,bU:=bU,group:=group,having:=having,order:=acc })=(bg || decide (64 < acc.length)) by rw[← Q4.out];simp[Qu.long,Bool.or_assoc]];exact Ia
         ·have:=d8.blk HE.out.blk (by omega);rw[Lx] at this;exact this
         ·exact { LC with order:=Cg }
         ·have:=(Q3.out).go (p:=gX) (f:=fun order=>sR items only cq bU group having order) hb2;rw[hb1,hdone.1] at this;exact this
        have wb:=hid hQ;clear hQ Cg Lx hrow Ia hb1 hb2 hdone d8 hh LC;go_wp2_with fail;go_meet;exact⟨acc,Vm,bw,wb.out⟩
       ·rw[az hh] at d8;obtain⟨l1,l2,l3⟩:=je hh;have vP:=hid hh;have hR:=HE.out.row.grown d8.grown (by omega);have LC:=Qu.at_.keep (jh d8.grown (by omega)) HE.out.at_;have NU:=d8.blk HE.out.blk (by omega);have Vn:=d8.blk HE.out.res (by omega);have Ia:=HE.out.did.trans d8;obtain⟨ys,ho,ha⟩:∃ys:List (Ex×Bool),aW Fw 140 8 w8 (w.heap.size+2) (Value.slice A2 n2 c2) ys∧jd (js.rel w8 (nj (w.heap.size+2) (Value.slice A2 n2 c2) w8)) acc ys:=hR.has;have RG:(ys:List (Ex×Bool)).length=acc.length:=ha.len;have Vi:ys.length≤5001:=by have:=HE.out.few;omega
        have how:=fun G hG=>hR.sQ (G:=G) hG
        have Yn:=NU.lt;clear RG hh;go_wp2_with fail;refine kq (P:=Tryz.prog) (f:=Fw) (val:=SI) (e:=140) (size:=8) (base:=w.heap.size+2) (l:=ys) (lv:=.slice A2 n2 c2) (Post:=Cc js (fun _=>false) ρ fS (.good bw.words.tail) ((bg || decide (64 < acc.length - 1))|| decide (64 < n2))) (w0:=w8) (q:=3) (d0:=69) (d1:=70) (d2:=71) (d3:=72) (d4:=73) (d5:=74) (d6:=75) (qb:=w.heap.size+1) (k:=6) (g:=ρ.g) (pq:=.pointer (some ⟨w.heap.size+1,0,none⟩)) (ptr:=ρ.ptr) (F:=129) (args:= #[ρ.ptr]) 56 56 _ 96 (by kernel_rfl) (by kernel_rfl) (by kernel_rfl) (by kernel_rfl) (by kernel_rfl) rfl rfl ?_ ?_ ?_ ?_ ?_ ?_ ?_ Tryz.underlying56 wD rfl (by omega) (fun _=>rfl) (by intro y u hu;simp[Fw,cM] at hu;rcases hu with rfl | rfl | rfl | rfl | rfl | rfl | rfl | rfl <;> rfl) ho ?_ (by omega) ?_ ?_ ?_ ?_ (by omega) ?_ ?_ ?_
        ·intro ρ' w' h';simp[go_sem,h']
        ·intro ρ' w' h';simp[go_sem,h']
        ·intro ρ' w' h' hc';simp[go_sem,h',hc']
        ·intro ρ' w' h';simp[go_sem,h']
        ·intro ρ' w' hc' h';simp[go_sem,h',hc'.const,hc'.func]
        ·intro ρ' w' y' h';simp[go_sem,h',SI,Fw,cM]
        ·intro ρ' w' s' v' Ih jS rH iO;simp only[execOp,resolve,invoke,builtin,Sem.run_bind,Sem.run_pure,Result.andThen_ok,List.map_toArray,List.map_cons,List.map_nil,jS,rH,iO]
        ·exact NU.cell 6
        ·intro e';have:=(how _ e').1;omega
        ·intro e';have:=(how _ e').1;omega
        ·omega
        ·omega
        ·intro w' hw';refine(wB ρ w' (.good bw.words.tail) _ (d8.at_.later hw')).mono ?_;rintro e w'' ⟨x,y,rfl,hx,hd,hv⟩;exact⟨y,rfl,x,hx,hd,hv⟩
        ·rintro y w' w'' ⟨x,hx,hd,hv⟩;exact hd.grown
        ·intro y9 s9 v9 w4 Yl w5 W9 dG hp hl2 uh eJ tJ lL gR;obtain⟨_,_,dd,_⟩:=id hp;have hs1:=dG.size;have hs2:=dd.size;have hs3:=hl2.size;obtain⟨x9,hgr,hdd,fC⟩:=nk (E:=js) (T:=140) (lng:=fun _=>false) (B:=w.heap.size+2) (acc:=acc) (by omega) cU hR (by omega) Ia dG hp hl2 eJ ys tJ ha lL;obtain⟨⟨A9,n9,c9⟩,jV,RP,_⟩:=hgr.sl (B':=w.heap.size) (by omega);replace jV:v9=.slice A9 n9 c9:=jV;subst jV;have RQ:∀(q:Nat),q < w.heap.size+2→some q≠(Value.slice A2 n2 c2).ownBlock:=fun q hq e'=>by have:=(how q e'.symm).1;omega
         have HX:=(((NU.later dG).grown dd.grown (by simp;omega)).later hl2).grown eJ (RQ _ (by omega));have HR:=(((Vn.later dG).grown dd.grown (by simp;omega)).later hl2).grown eJ (RQ _ (by omega));have LB:=Qu.at_.keep (wC (show w.heap.size+1 < w.heap.size+2 by omega) 6 (.slice A9 n9 c9)) (Qu.at_.keep (mC eJ lL) (Qu.at_.keep (fY hl2) (Qu.at_.keep (jh dd.grown (by omega)) (Qu.at_.keep (fY dG) LC))));have Hf:=HX.frozen 6;have nV:=HX.cn 6 (.slice A9 n9 c9);have CF:=HR.far (p:=⟨w.heap.size+1,6,none⟩) (by simp) (.slice A9 n9 c9);simp only[List.setIfInBounds_toArray,List.set_cons_succ,List.set_cons_zero] at nV;have C2:=aF.bh fX (aF.good bw.words.tail);have hI:wE ρ w bg RS { items:=sl,only:=only,cq:=cq,bU:=⟨wK,wL,wM⟩,group:=sg,having:=⟨yg,yh,yi⟩} { items:=items,only:=only,cq:=cq,bU:=bU,group:=group,having:=having } (af fS (.good bw.words.tail)).left (.slice A9 n9 c9) (W9.setCell ⟨w.heap.size+1,6,none⟩ (.slice A9 n9 c9)) (af fS (.good bw.words.tail)) (acc++ [x9]):=by refine⟨by simp,by have:=HE.out.few;simp;omega,Nat.le_refl _,hgr.far (by omega) 6 (.slice A9 n9 c9),?_,nV,CF,LB,ei.go fX HE.out.todo vP.out fC⟩;have:=hdd.far cU (show w.heap.size≤w.heap.size+1 by omega) 6 (.slice A9 n9 c9);rw[Fg.out,mD,Bool.or_false] at this;rw[List.length_append,List.length_singleton,Nat.add_sub_cancel];exact this
         have Yo:=hid hI;clear hI hgr hdd fC HX HR nV CF tJ lL uh hp dd dG hl2 RP eJ hR NU Vn Ia ha ho how RQ LB LC;simp only[Act.put,List.setIfInBounds_toArray,List.set_cons_succ,List.set_cons_zero];go_wp2_with fail;go_roundg (af fS (aF.good bw.words.tail)).left;case measure=>have:=HE.out.le;omega
         case rel=>exact⟨_,_,_,Yo.out⟩
   case rest=>
    obtain⟨order,so,Yx,hQ⟩:=hcut;clear mG wF;have zM:=hid hQ;clear hQ;cases ug:Yx.head lp
    ·have hm:=cL ρ wc Yx _ zM.out.did.at_ ⟨#[108,105,109,105,116]⟩ ug;obtain⟨hb1,hb2⟩:=BP ug;clear ug;go_wp2_with fail;refine hm.mono ?_;rintro e zR ⟨rfl,zS⟩;have hS:=zM.out.stay cU zS;have yf:=hS.todo.go (p:=jb) (f:=fun bP=>pure { items:=items,only:=only,cq:=cq,bU:=bU,group:=group,having:=having,order:=order,bP:=bP }) hb2;rw[hb1] at yf;have Mg:=hid yf.done;have HS:=hid hS;obtain⟨x0,x1,x2,x3,x4,x5,x6,x7⟩:=cz hS.blk;obtain⟨z0,z1,z2,z3,z4,z5,z6,z7⟩:=iP hS.res;obtain⟨y0,y1,y2,y3,y4,y5,y6,y7⟩:=cz hS.res;unfold jF at x0 x3 x4 x5 x6 x7;clear hS yf hb1 hb2 zS hm;go_wp2_with fail;have HP:=Cf HS.out.res { items:=sl,only:=only,cq:=cq,bU:=⟨wK,wL,wM⟩,group:=sg,having:=⟨yg,yh,yi⟩,order:=so,bP:=Sl.nil };have HR:=cz HP;unfold ue jF at HR;obtain⟨r0,r1,r2,r3,r4,r5,r6,r7⟩:=HR;refine bodyPost_ret (v:=Rq { items:=sl,only:=only,cq:=cq,bU:=⟨wK,wL,wM⟩,group:=sg,having:=⟨yg,yh,yi⟩,order:=so,bP:=Sl.nil }) ?_ rfl ?_
     ·simp[results,Tryz.results105,go_sem,r0,r1,r2,r3,r4,r5,r6,r7];rfl
     ·refine⟨{ items:=items,only:=only,cq:=cq,bU:=bU,group:=group,having:=having,order:=order,bP:=[] },{ items:=sl,only:=only,cq:=cq,bU:=⟨wK,wL,wM⟩,group:=sg,having:=⟨yg,yh,yi⟩,order:=so,bP:=Sl.nil },rfl,?_,?_,Mg.out.2⟩
      ·exact Qu.at_.keep (eP (by omega)) (HS.out.at_.ue (by omega) { items:=sl,only:=only,cq:=cq,bU:=⟨wK,wL,wM⟩,group:=sg,having:=⟨yg,yh,yi⟩,order:=so,bP:=Sl.nil })
      ·rw[Mg.out.1];exact HS.out.did.ue cU (Nat.le_refl _) { items:=sl,only:=only,cq:=cq,bU:=⟨wK,wL,wM⟩,group:=sg,having:=⟨yg,yh,yi⟩,order:=so,bP:=Sl.nil }
    ·have hm:=kT ρ wc Yx _ zM.out.did.at_ ⟨#[108,105,109,105,116]⟩ ug;have Q5:=hid ug;have Q6:=zM.out.blk.lt;clear ug;go_wp2_with fail;refine hm.mono ?_;rintro e zQ ⟨rfl,sL⟩;go_wp2_with fail;refine(xP ρ _ _ _ sL.at_).mono ?_;rintro e zR ⟨k,UG,Mu,rfl,zS,UO⟩;obtain⟨hb1,hb2⟩:=DY Q5.out UO;have yf:=zM.out.todo.go (p:=jb) (f:=fun bP=>pure { items:=items,only:=only,cq:=cq,bU:=bU,group:=group,having:=having,order:=order,bP:=bP }) hb2;rw[hb1] at yf;have Mg:=hid yf.done;have BC:=sL.size;have Nx:=zS.size;have E5:=aa zR (.cells #[.int .i64 k] 2);have hdd:=(sL.trans zS).later E5;have hX:=hdd.blk zM.out.blk (by omega);have V3:=hX.frozen 7;have V5:=hX.cell 7;have hS:=zM.out.list (m':= { items:=sl,only:=only,cq:=cq,bU:=⟨wK,wL,wM⟩,group:=sg,having:=⟨yg,yh,yi⟩,order:=so,bP:=⟨some ⟨zR.heap.size,0,none⟩,1,1⟩}) (d':= { items:=items,only:=only,cq:=cq,bU:=bU,group:=group,having:=having,order:=order,bP:=[k] }) cU hdd yf 7 (.slice (some ⟨zR.heap.size,0,none⟩) 1 1) rfl rfl (fun hat=> { hat with bP:=NT (ah.new zR _ _) ⟨by omega,by simp⟩});have HS:=hid hS;obtain⟨x0,x1,x2,x3,x4,x5,x6,x7⟩:=cz hS.blk;obtain⟨z0,z1,z2,z3,z4,z5,z6,z7⟩:=iP hS.res;obtain⟨y0,y1,y2,y3,y4,y5,y6,y7⟩:=cz hS.res;unfold jF at x0 x3 x4 x5 x6 x7;clear hS yf hb1 hb2 zS sL hm UO hdd hX E5;go_wp2_with fail;have HP:=Cf HS.out.res { items:=sl,only:=only,cq:=cq,bU:=⟨wK,wL,wM⟩,group:=sg,having:=⟨yg,yh,yi⟩,order:=so,bP:=⟨some ⟨zR.heap.size,0,none⟩,1,1⟩};have HR:=cz HP;unfold ue jF at HR;obtain⟨r0,r1,r2,r3,r4,r5,r6,r7⟩:=HR;refine bodyPost_ret (v:=Rq { items:=sl,only:=only,cq:=cq,bU:=⟨wK,wL,wM⟩,group:=sg,having:=⟨yg,yh,yi⟩,order:=so,bP:=⟨some ⟨zR.heap.size,0,none⟩,1,1⟩}) ?_ rfl ?_
     ·simp[results,Tryz.results105,go_sem,r0,r1,r2,r3,r4,r5,r6,r7];rfl
     ·refine⟨{ items:=items,only:=only,cq:=cq,bU:=bU,group:=group,having:=having,order:=order,bP:=[k] },{ items:=sl,only:=only,cq:=cq,bU:=⟨wK,wL,wM⟩,group:=sg,having:=⟨yg,yh,yi⟩,order:=so,bP:=⟨some ⟨zR.heap.size,0,none⟩,1,1⟩},rfl,?_,?_,Mg.out.2⟩
      ·exact Qu.at_.keep (eP (by omega)) (HS.out.at_.ue (by omega) { items:=sl,only:=only,cq:=cq,bU:=⟨wK,wL,wM⟩,group:=sg,having:=⟨yg,yh,yi⟩,order:=so,bP:=⟨some ⟨zR.heap.size,0,none⟩,1,1⟩})
      ·rw[Mg.out.1];exact HS.out.did.ue cU (Nat.le_refl _) { items:=sl,only:=only,cq:=cq,bU:=⟨wK,wL,wM⟩,group:=sg,having:=⟨yg,yh,yi⟩,order:=so,bP:=⟨some ⟨zR.heap.size,0,none⟩,1,1⟩}
end Go.Proofs.YtfmbcoeallmnnaaGreatDoor.R
