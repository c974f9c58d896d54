/- Parts of the proof. -/
import Derived.Test.YtcneefmaghoejaaGreatDoorC30
namespace Go.Proofs.YtcneefmaghoejaaGreatDoor
open Go.Lib (hid)
open Go.ChangeShapes Go.WideShapes Go.ChangeAt Go.RowKit
set_option linter.unusedVariables false
set_option linter.unusedSimpArgs false
def P9:Obj:=.cells #[.slice none 0 0,.string ⟨#[]⟩,.bool false,.slice none 0 0,.slice none 0 0,.slice none 0 0,.slice none 0 0,.slice none 0 0] 29
structure yU (ρ:br) (w:World) (big:Bool) (σ:aW) (k:Ps Qu) (wr:World) (bU:aW) (m:tP) (d:Qu):Prop where
 did:dV ρ w wr bU (big || d.long)
 blk:au wr (w.heap.size+1) 29 (lx m).toArray
 res:au wr w.heap.size 29 #[.slice none 0 0,.string ⟨#[]⟩,.bool false,.slice none 0 0,.slice none 0 0,.slice none 0 0,.slice none 0 0,.slice none 0 0]
 at_:d.at_ wr (eD (w.heap.size+2) wr) m
 todo:VJ (α:=Unit) σ k bU
def oy (items:List (Tr×ByteArray)):Ps Qu:=do
 must dE
 let only ← may jF
 let bw ← aN
 let bK ← cL eO
 let group ← iT
 let having ← cL lK
 let order ← fU
 let cG ← jo
 return { items,bw,only,bK,group,having,order,cG }
theorem Bw:(Tryz.prog.info? 97).map (fun i=>(i.zero,i.size,i.bytes))=some (some (.agg #[.int .u8 0,.int .u8 0,.int .i64 0,.string ⟨#[]⟩,.string ⟨#[]⟩,.int .i64 0,.slice none 0 0,.bool false]),8,96):=by kernel_rfl
structure Bz (ρ:br) (w:World) (bg:Bool) (σ:aW) (m:tP) (d:Qu) (k:Nat) (v:Value) (wr:World) (bU:aW) (acc:List (Tr×Bool)):Prop where
 pos:0 < acc.length
 few:acc.length+bU.left≤5001
 le:bU.left≤k
 row:gY iM 97 wr (w.heap.size+2) v acc
 did:dV ρ w wr bU (bg || decide (64 < acc.length - 1))
 blk:au wr (w.heap.size+1) 29 #[eP m.items,.string m.bw,.bool m.only,eP m.bK,eP m.group,eP m.having,v,eP m.cG]
 res:au wr w.heap.size 29 #[.slice none 0 0,.string ⟨#[]⟩,.bool false,.slice none 0 0,.slice none 0 0,.slice none 0 0,.slice none 0 0,.slice none 0 0]
 at_:Qu.at_ wr (ko (w.heap.size+2) v wr) d m
 todo:fZ fN σ acc bU
def yV (w:World)(q:Nat)(m:tP):World:=(((((((w.setCell ⟨q,0,none⟩ (eP m.items)).setCell ⟨q,1,none⟩ (.string m.bw)).setCell ⟨q,2,none⟩ (.bool m.only)).setCell ⟨q,3,none⟩ (eP m.bK)).setCell ⟨q,4,none⟩ (eP m.group)).setCell ⟨q,5,none⟩ (eP m.having)).setCell ⟨q,6,none⟩ (eP m.order)).setCell ⟨q,7,none⟩ (eP m.cG)
theorem Jd {w:World} {q:Nat} {T:TypeId} {a b c d e f g i:Value}(h:au w q T #[a,b,c,d,e,f,g,i])(m:tP):au (yV w q m) q T (lx m).toArray:=by have:=(((((((h.cg 0 (eP m.items)).cg 1 (.string m.bw)).cg 2 (.bool m.only)).cg 3 (eP m.bK)).cg 4 (eP m.group)).cg 5 (eP m.having)).cg 6 (eP m.order)).cg 7 (eP m.cG);simp only[List.setIfInBounds_toArray,List.set_cons_zero,List.set_cons_succ] at this;exact this
theorem dV.yV {ρ:br} {W w:World} {σ:aW} {big:Bool} {q:Nat}(h:dV ρ W w σ big)(hW:ρ.g < W.heap.size)(hq:W.heap.size≤q)(m:tP):dV ρ W (yV w q m) σ big:=
 (((((((h.far hW hq 0 _).far hW hq 1 _).far hW hq 2 _).far hW hq 3 _).far hW hq 4 _).far hW hq 5 _).far hW hq 6 _).far hW hq 7 _
theorem Qu.at_.yV {B q:Nat} {w:World} {d:Qu} {m:tP}(h:d.at_ w (eD B w) m)(hq:q < B)(m':tP):d.at_ (yV w q m') (eD B (Go.Proofs.YtcneefmaghoejaaGreatDoor.yV w q m')) m:=by
 have s:=fun(w:World) (h:d.at_ w (eD B w) m) (i:Nat) (u:Value)=>Qu.at_.keep (iO (w:=w) hq i u) h
 exact s _ (s _ (s _ (s _ (s _ (s _ (s _ (s _ h 0 _) 1 _) 2 _) 3 _) 4 _) 5 _) 6 _) 7 _
theorem XR {w:World} {S:Nat→Prop} {G:Nat} {k:Int}(h:au w G 2 #[.int .i64 k])(hS:S G):LW.sl w S ⟨some ⟨G,0,none⟩,1,1⟩ [k]:=
 ⟨rfl,[k],xk (f:=fun k:Int=> [Value.int .i64 k]) (fun _=>rfl) h hS,.one rfl⟩
def xJ (items:List (Tr×ByteArray))(only:Bool)(bw:ByteArray)(bK group having:List Tr)(order:List (Tr×Bool)):Ps Qu:=do
 let cG ← jo
 return { items,bw,only,bK,group,having,order,cG }
def Ua (items:List (Tr×ByteArray))(only:Bool)(bw:ByteArray)(bK group having:List Tr):Ps Qu:=do
 let order ← fU
 xJ items only bw bK group having order
def wB (items:List (Tr×ByteArray))(only:Bool)(bw:ByteArray)(bK group:List Tr):Ps Qu:=do
 let having ← cL lK
 Ua items only bw bK group having
def Ub (items:List (Tr×ByteArray))(only:Bool)(bw:ByteArray)(bK:List Tr):Ps Qu:=do
 let group ← iT
 wB items only bw bK group
def Uc (items:List (Tr×ByteArray))(only:Bool)(bw:ByteArray):Ps Qu:=do
 let bK ← cL eO
 Ub items only bw bK
def C2 (items:List (Tr×ByteArray))(only:Bool):Ps Qu:=do
 let bw ← aN
 Uc items only bw
def acg (items:List (Tr×ByteArray)):Ps Qu:=do
 let only ← may jF
 C2 items only
section
variable {ρ:br} {w wr w2:World} {big:Bool} {σ bU:aW} {m:tP} {d:Qu}
theorem yU.later {k:Ps Qu}(A:yU ρ w big σ k wr bU m d)(hb:Below wr.heap.size wr w2):yU ρ w big σ k w2 bU m d:=
 ⟨A.did.later hb,A.blk.later hb,A.res.later hb,Qu.at_.keep (cP hb) A.at_,A.todo⟩
theorem yU.jh {α:Type} {p:Ps α} {f:α→Ps Qu} {x:α}(A:yU ρ w big σ (p >>= f) wr bU m d)(hg:ρ.g < w.heap.size)(dd:dV ρ wr w2 (ae p bU) (big || d.long))(hx:aK p bU x):yU ρ w big σ (f x) w2 (ae p bU) m d:=
 ⟨A.did.trans dd,dd.blk A.blk (by omega),dd.blk A.res (by omega),Qu.at_.keep (cK dd.grown (by omega)) A.at_,A.todo.go hx⟩
theorem yU.set {k:Ps Qu} {m':tP} {d':Qu}(A:yU ρ w big σ k wr bU m d)(hg:ρ.g < w.heap.size)(i:Nat)(u:Value)(hb:(lx m').toArray=(lx m).toArray.setIfInBounds i u)(hl:d'.long=d.long)(hat:Qu.at_ wr (eD (w.heap.size+2) wr) d' m'):yU ρ w big σ k (wr.setCell ⟨w.heap.size+1,i,none⟩ u) bU m' d':=by
 refine⟨?_,?_,A.res.far (p:=⟨w.heap.size+1,i,none⟩) (by simp) u,Qu.at_.keep (iO (by omega) i u) hat,A.todo⟩
 ·rw[hl];exact A.did.far hg (by omega) i u
 ·rw[hb];exact A.blk.cg i u
theorem yU.stay {k:Ps Qu}(A:yU ρ w big σ k wr bU m d)(hg:ρ.g < w.heap.size)(dd:dV ρ wr w2 bU (big || d.long)):yU ρ w big σ k w2 bU m d:=
 ⟨A.did.trans dd,dd.blk A.blk (by omega),dd.blk A.res (by omega),Qu.at_.keep (cK dd.grown (by omega)) A.at_,A.todo⟩
theorem yU.list {k k':Ps Qu} {m':tP} {d':Qu} {ach:Bool} {ve:aW}(A:yU ρ w big σ k wr bU m d)(hg:ρ.g < w.heap.size)(dd:dV ρ wr w2 ve ach)(td:VJ (α:=Unit) σ k' ve)(i:Nat)(u:Value)(hb:(lx m').toArray=(lx m).toArray.setIfInBounds i u)(hL:ach=(big || d'.long))(hat:Qu.at_ w2 (eD (w.heap.size+2) w2) d m→Qu.at_ w2 (eD (w.heap.size+2) w2) d' m'):yU ρ w big σ k' (w2.setCell ⟨w.heap.size+1,i,none⟩ u) ve m' d':=by
 refine⟨?_,?_,(dd.blk A.res (by omega)).far (p:=⟨w.heap.size+1,i,none⟩) (by simp) u,Qu.at_.keep (iO (by omega) i u) (hat (Qu.at_.keep (cK dd.grown (by omega)) A.at_)),td⟩
 ·rw[← hL];exact(A.did.trans dd).far hg (by omega) i u
 ·rw[hb];exact(dd.blk A.blk (by omega)).cg i u
end
structure FE (ρ:br) (w:World) (big:Bool) (σ:aW) (k:Nat) (v:Value) (wr:World) (bU:aW) (acc:List (Tr×ByteArray)):Prop where
 pos:0 < acc.length
 few:acc.length+bU.left≤5001
 le:bU.left≤k
 row:gY jE 51 wr (w.heap.size+2) v acc
 did:dV ρ w wr bU (big || decide (64 < acc.length - 1))
 blk:au wr (w.heap.size+1) 29 #[v,.string ⟨#[]⟩,.bool false,.slice none 0 0,.slice none 0 0,.slice none 0 0,.slice none 0 0,.slice none 0 0]
 res:au wr w.heap.size 29 #[.slice none 0 0,.string ⟨#[]⟩,.bool false,.slice none 0 0,.slice none 0 0,.slice none 0 0,.slice none 0 0,.slice none 0 0]
 todo:fZ gy σ acc bU
set_option maxHeartbeats 1000000
set_option maxRecDepth 100000
theorem BA (ρ:br)(w:World)(σ:aW)(big:Bool)(h:ρ.at w σ big):
  Calls Tryz.prog 47 #[ρ.ptr] w fun e w'=>∃(d:Qu) (y:tP),e=.returned (KP y)∧d.at_ w' (eD w.heap.size w') y∧dV ρ w w' (ae cH σ) (big || d.long)∧aK cH σ d:=by
 have aF:=h.jt;have hb:=ah.then (aa w P9) (aa _ P9)
 have hb2:=ah.then hb (aa _ (.cells (aj [bt]) 9))
 have h0:=h.later hb2;have HQ:=hid (((au.new w 29 #[.slice none 0 0,.string ⟨#[]⟩,.bool false,.slice none 0 0,.slice none 0 0,.slice none 0 0,.slice none 0 0,.slice none 0 0]).alloc P9).alloc (.cells (aj [bt]) 9));have my:=au.new (w.alloc P9) 29 #[.slice none 0 0,.string ⟨#[]⟩,.bool false,.slice none 0 0,.slice none 0 0,.slice none 0 0,.slice none 0 0,.slice none 0 0];rw[World.size_alloc] at my;have HL:=hid (my.alloc (.cells (aj [bt]) 9));have FH:=au.new ((w.alloc P9).alloc P9) 9 (aj [bt]);rw[World.size_alloc,World.size_alloc] at FH;clear my;unfold P9 at*;go_enter Tryz.func47,Tryz.ntmps47;go_wp2_with fail;refine(bk ρ _ σ big h0 [bt] (w.heap.size+2) 1 rfl FH (by omega) (by omega)).mono ?_;rintro e w1 ⟨rfl,d1⟩;simp only[aw] at d1;have hA:yU ρ w big σ (do let items ← jR;oy items) w1 (ae (must bt) σ) {} {}:=
  ⟨by simpa [Qu.long] using(dV.aL h hb2).trans d1,HL.out.grown d1.grown (by simp;omega),HQ.out.grown d1.grown (by simp;omega),Qu.fq _ _,(VJ.start σ).go (p:=must bt) (f:=fun _=>do let items ← jR;oy items) (x:=()) (aJ _ _)⟩
 clear HL HQ FH h0 d1 hb2;have HA:=hid hA;clear hA;generalize ae (must bt) σ=fF at*;have hm:=dL ρ w1 fF _ HA.out.did.at_ ⟨#[42]⟩;go_upto_if 9 with fail
 refine hm.mono ?_;rintro e w3 ⟨rfl,d3⟩;rw[show fF.head (⟨#[42]⟩:ByteArray).data.toList=fF.head eI from rfl];have d3:dV ρ w1 w3 (ae (may eI) fF) _:=d3;go_upto_if 9 with fail
 go_cut [] (fun wx=>∃(items:List (Tr×ByteArray)) (sl:Sl) (bU:aW),yU ρ w big σ (oy items) wx bU { items:=sl } { items:=items });case first=>
  cases hst:fF.head eI
  ·have HST:=hid hst;rw[aG hst] at d3;clear hst;have A3:yU ρ w big σ _ w3 fF {} {}:=⟨HA.out.did.trans d3,d3.blk HA.out.blk (by omega),d3.blk HA.out.res (by omega),Qu.at_.keep (cK d3.grown (by omega)) HA.out.at_,HA.out.todo⟩;have DA3:dV ρ w w3 fF big:=by simpa [Qu.long] using A3.did
   have hw3:=A3.blk.lt;have mD:=hid A3;clear d3 hm HA;go_wp2_with fail;refine fJ (P:=Tryz.prog) (f:=zB) (val:=WX) (e:=51) (size:=8) (base:=w.heap.size+2) (l:=[]) (lv:=.slice none 0 0) (Post:=pW jE (fun _=>false) ρ gy fF big) (w0:=w3) (q:=3) (d0:=10) (d1:=11) (d2:=12) (d3:=13) (d4:=14) (d5:=15) (d6:=16) (qb:=w.heap.size+1) (k:=0) (g:=ρ.g) (pq:=.pointer (some ⟨w.heap.size+1,0,none⟩)) (ptr:=ρ.ptr) (F:=85) (args:= #[ρ.ptr]) 24 24 _ 104 (by kernel_rfl) (by kernel_rfl) (by kernel_rfl) (by kernel_rfl) (by kernel_rfl) rfl rfl ?_ ?_ ?_ ?_ ?_ ?_ ?_ Tryz.underlying24 tQ rfl (by omega) (fun _=>rfl) (by intro y u hu;simp[zB,bl] at hu;rcases hu with rfl | rfl | rfl | rfl | rfl | rfl | rfl | rfl <;> rfl) df.nil ?_ (by omega) ?_ ?_ ?_ ?_ (by omega) ?_ ?_ ?_
   ·intro ρ' w' h';simp[go_sem,h']
   ·intro ρ' w' h';simp[go_sem,h']
   ·intro ρ' w' h' hc';simp[go_sem,h',hc']
   ·intro ρ' w' h';simp[go_sem,h']
   ·intro ρ' w' hc' h';simp[go_sem,h',hc'.const,hc'.func]
   ·intro ρ' w' y' h';simp[go_sem,h',WX,zB,bl]
   ·intro ρ' w' s' v' Co kB jH gO;simp only[execOp,resolve,invoke,builtin,Sem.run_bind,Sem.run_pure,Result.andThen_ok,List.map_toArray,List.map_cons,List.map_nil,kB,jH,gO]
   ·exact A3.blk.cell 0
   ·simp[Value.ownBlock]
   ·simp[Value.ownBlock]
   ·simp
   ·simp
   ·intro w' hw';refine(Dn ρ w' fF big (DA3.at_.later hw')).mono ?_;rintro e w'' ⟨x,y,rfl,hx,hd,hv⟩;exact⟨y,rfl,x,hx,hd,hv⟩
   ·rintro y w' w'' ⟨x,hx,hd,hv⟩;exact hd.grown
   ·intro y s v' w4 XS w5 W eU hp hl2 mC eB iz lz jW;obtain⟨_,_,dd,_⟩:=id hp;have hs1:=eU.size;have hs2:=dd.size;have hs3:=hl2.size;obtain⟨x,hgr,hdd,iF⟩:=mo (E:=jE) (T:=51) (lng:=fun _=>false) (B:=w.heap.size+2) (acc:=[]) (by omega) aF (gY.nil jE 51 w3 (w.heap.size+2)) (by omega) DA3 eU hp hl2 eB [] iz .nil lz;obtain⟨⟨A,n,c⟩,fE,nO,_⟩:=hgr.sl (B':=w.heap.size) (by omega);replace fE:v'=.slice A n c:=fE;subst fE;have HX:=(((mD.out.blk.later eU).grown dd.grown (by simp;omega)).later hl2).later (gw eB);have HR:=(((mD.out.res.later eU).grown dd.grown (by simp;omega)).later hl2).later (gw eB);have zx:=HX.frozen 0;have kR:=HX.cg 0 (.slice A n c);have xt:=HR.far (p:=⟨w.heap.size+1,0,none⟩) (by simp) (.slice A n c);have Oh:=HX.lt;unfold lx at kR;simp only[List.setIfInBounds_toArray,List.set_cons_succ,List.set_cons_zero] at kR;have hI:FE ρ w big fF 5000 (.slice A n c) (W.setCell ⟨w.heap.size+1,0,none⟩ (.slice A n c)) (ae gy fF) [x]:=by have hl:=aW.cw cJ fF;have nD:=DA3.at_.left;have hsm:=DA3.at_.small;refine⟨by simp,by simp;omega,by omega,hgr.far (by omega) 0 (.slice A n c),?_,kR,xt,fZ.start iF⟩;have:=hdd.far aF (show w.heap.size≤w.heap.size+1 by omega) 0 (.slice A n c);simpa using this
    have HI:=hid hI;clear hI hgr hdd iF HX HR kR xt iz lz mC hp dd eU hl2 nO;simp only[Act.put,List.setIfInBounds_toArray,List.set_cons_succ,List.set_cons_zero];go_wp2_with fail;clear zx jW;generalize W.setCell ⟨w.heap.size+1,0,none⟩ (.slice A n c)=W4 at*;go_loopg [] 5000 (fun k wr=>∃bU acc u,FE ρ w big fF k u wr bU acc);case atStart=>exact⟨_,_,_,HI.out⟩
    case round=>
     obtain⟨bU,acc,u,hE⟩:=hrel;obtain⟨⟨A2,n2,c2⟩,fE,nO,_⟩:=hE.row.sl (B':=w.heap.size) (by omega);replace fE:u=.slice A2 n2 c2:=fE;replace nO:n2=acc.length:=nO;subst fE;have yi:=hid nO;have mM:0 < n2:=by have:=hE.pos;omega
     have mA:n2≤5001:=by have:=hE.few;omega
     have x0:=hE.blk.cell 0;simp only[List.getElem?_toArray,List.getElem?_cons_zero,List.getElem?_cons_succ] at x0;have gi:=hE.blk.lt;have HE:=hid hE;clear hE nO HI;go_wp2_with fail;refine(nN ρ wr bU _ HE.out.did.at_ n2 (by omega)).mono ?_;rintro e w8 ⟨rfl,d8⟩;have hs8:=d8.size;cases hh:bU.head ax
     ·rw[aG hh] at d8;have hdone:=fZ.done cJ HE.out.todo hh;have hit:=KA HST.out hdone.2;obtain⟨hb1,hb2⟩:=hit;have xi:=HE.out.did.trans d8;rw[yi.out,mP] at xi;have hrow:=HE.out.row.grown d8.grown (by omega);obtain⟨C3,Lr,_,BB⟩:=hrow.sl (B':=w.heap.size+2) (Nat.le_refl _);have hQ:yU ρ w big σ (oy acc) w8 bU { items:=C3 } { items:=acc }:=by
       refine⟨?_,?_,d8.blk HE.out.res (by omega),?_,?_⟩
       ·have:Qu.long { items:=acc }=decide (64 < acc.length):=by simp[Qu.long]
        rw[this];exact xi
       ·have:=d8.blk HE.out.blk (by omega);rw[Lr] at this;exact this
       ·exact { Qu.fq w8 _ with items:=BB }
       ·have:=(mD.out.todo).go hb2;rw[hb1,hdone.1] at this;exact this
      have rj:=hid hQ;clear hQ BB Lr hrow xi hb1 hb2 hdone d8 hh;go_wp2_with fail;go_meet;exact⟨acc,C3,bU,rj.out⟩
     ·rw[aP hh] at d8;obtain⟨l1,l2,l3⟩:=ll hh;have lB:=hid hh;have hR:=HE.out.row.grown d8.grown (by omega);have zE:=d8.blk HE.out.blk (by omega);have Q0:=d8.blk HE.out.res (by omega);have xi:=HE.out.did.trans d8;obtain⟨ys,ho,ha⟩:∃ys:List (Ex×ByteArray),df zB 51 8 w8 (w.heap.size+2) (Value.slice A2 n2 c2) ys∧jP (jE.rel w8 (ko (w.heap.size+2) (Value.slice A2 n2 c2) w8)) acc ys:=hR.has;have OT:(ys:List (Ex×ByteArray)).length=acc.length:=ha.len;have Ba:ys.length≤5001:=by have:=HE.out.few;omega
      have how:=fun G hG=>hR.qM (G:=G) hG
      have agL:=zE.lt;clear OT hh;go_wp2_with fail;refine fJ (P:=Tryz.prog) (f:=zB) (val:=WX) (e:=51) (size:=8) (base:=w.heap.size+2) (l:=ys) (lv:=.slice A2 n2 c2) (Post:=pW jE (fun _=>false) ρ gy (.good bU.words.tail) ((big || decide (64 < acc.length - 1))|| decide (64 < n2))) (w0:=w8) (q:=3) (d0:=22) (d1:=23) (d2:=24) (d3:=25) (d4:=26) (d5:=27) (d6:=28) (qb:=w.heap.size+1) (k:=0) (g:=ρ.g) (pq:=.pointer (some ⟨w.heap.size+1,0,none⟩)) (ptr:=ρ.ptr) (F:=85) (args:= #[ρ.ptr]) 24 24 _ 104 (by kernel_rfl) (by kernel_rfl) (by kernel_rfl) (by kernel_rfl) (by kernel_rfl) rfl rfl ?_ ?_ ?_ ?_ ?_ ?_ ?_ Tryz.underlying24 tQ rfl (by omega) (fun _=>rfl) (by intro y u hu;simp[zB,bl] at hu;rcases hu with rfl | rfl | rfl | rfl | rfl | rfl | rfl | rfl <;> rfl) ho ?_ (by omega) ?_ ?_ ?_ ?_ (by omega) ?_ ?_ ?_
      ·intro ρ' w' h';simp[go_sem,h']
      ·intro ρ' w' h';simp[go_sem,h']
      ·intro ρ' w' h' hc';simp[go_sem,h',hc']
      ·intro ρ' w' h';simp[go_sem,h']
      ·intro ρ' w' hc' h';simp[go_sem,h',hc'.const,hc'.func]
      ·intro ρ' w' y' h';simp[go_sem,h',WX,zB,bl]
      ·intro ρ' w' s' v' Co kB jH gO;simp only[execOp,resolve,invoke,builtin,Sem.run_bind,Sem.run_pure,Result.andThen_ok,List.map_toArray,List.map_cons,List.map_nil,kB,jH,gO]
      ·exact zE.cell 0
      ·intro e';have:=(how _ e').1;omega
      ·intro e';have:=(how _ e').1;omega
      ·omega
      ·omega
      ·intro w' hw';refine(Dn ρ w' (.good bU.words.tail) _ (d8.at_.later hw')).mono ?_;rintro e w'' ⟨x,y,rfl,hx,hd,hv⟩;exact⟨y,rfl,x,hx,hd,hv⟩
      ·rintro y w' w'' ⟨x,hx,hd,hv⟩;exact hd.grown
      ·intro y9 s9 v9 w4 XS w5 W9 eU hp hl2 mC eB iz lz jW;obtain⟨_,_,dd,_⟩:=id hp;have hs1:=eU.size;have hs2:=dd.size;have hs3:=hl2.size;obtain⟨x9,hgr,hdd,iF⟩:=mo (E:=jE) (T:=51) (lng:=fun _=>false) (B:=w.heap.size+2) (acc:=acc) (by omega) aF hR (by omega) xi eU hp hl2 eB ys iz ha lz;obtain⟨⟨A9,n9,c9⟩,fE,Q1,_⟩:=hgr.sl (B':=w.heap.size) (by omega);replace fE:v9=.slice A9 n9 c9:=fE;subst fE;have Gd:∀(q:Nat),q < w.heap.size+2→some q≠(Value.slice A2 n2 c2).ownBlock:=fun q hq e'=>by have:=(how q e'.symm).1;omega
       have HX:=(((zE.later eU).grown dd.grown (by simp;omega)).later hl2).grown eB (Gd _ (by omega));have HR:=(((Q0.later eU).grown dd.grown (by simp;omega)).later hl2).grown eB (Gd _ (by omega));have zx:=HX.frozen 0;have kR:=HX.cg 0 (.slice A9 n9 c9);have xt:=HR.far (p:=⟨w.heap.size+1,0,none⟩) (by simp) (.slice A9 n9 c9);simp only[List.setIfInBounds_toArray,List.set_cons_succ,List.set_cons_zero] at kR;have VN:=aW.cw cJ (aW.good bU.words.tail);have hI:FE ρ w big fF (ae gy (.good bU.words.tail)).left (.slice A9 n9 c9) (W9.setCell ⟨w.heap.size+1,0,none⟩ (.slice A9 n9 c9)) (ae gy (.good bU.words.tail)) (acc++ [x9]):=by refine⟨by simp,by have:=HE.out.few;simp;omega,Nat.le_refl _,hgr.far (by omega) 0 (.slice A9 n9 c9),?_,kR,xt,fZ.go cJ HE.out.todo lB.out iF⟩;have:=hdd.far aF (show w.heap.size≤w.heap.size+1 by omega) 0 (.slice A9 n9 c9);rw[yi.out,mP,Bool.or_false] at this;rw[List.length_append,List.length_singleton,Nat.add_sub_cancel];exact this
       have XT:=hid hI;clear hI hgr hdd iF HX HR kR xt iz lz mC hp dd eU hl2 Q1 eB hR zE Q0 xi ha ho how Gd;simp only[Act.put,List.setIfInBounds_toArray,List.set_cons_succ,List.set_cons_zero];go_wp2_with fail;go_roundg (ae gy (aW.good bU.words.tail)).left;case measure=>have:=HE.out.le;omega
       case rel=>exact⟨_,_,_,XT.out⟩
  ·rw[aP hst] at d3;obtain⟨hb1,hb2⟩:=Kz hst;have hQ:yU ρ w big σ (oy []) w3 (.good fF.words.tail) { items:=Sl.nil } { items:=[] }:=by refine⟨HA.out.did.trans d3,d3.blk HA.out.blk (by omega),d3.blk HA.out.res (by omega),Qu.at_.keep (cK d3.grown (by omega)) HA.out.at_,?_⟩;have:=(HA.out.todo).go hb2;rw[hb1] at this;exact this
   have rj:=hid hQ;clear hQ hb1 hb2 d3 hst hm;go_wp2_with fail;go_meet;exact⟨[],Sl.nil,_,rj.out⟩
 case rest=>
  obtain⟨items,sl,ve,hQ⟩:=hcut;clear hm d3 HA hb;have bf:=aa wc (.cells (aj [dE]) 9);have hQ1:=hQ.later bf;have zj:=hQ.blk.lt;have jd:=hid hQ1;clear hQ hQ1;go_wp2_with fail;refine(bk ρ _ ve _ jd.out.did.at_ [dE] wc.heap.size 1 rfl (au.new _ _ _) (by omega) (by omega)).mono ?_;rintro e w4 ⟨rfl,d4⟩;simp only[aw] at d4;have hQ2:=jd.out.jh (p:=must dE) (f:=fun _=>acg items) (x:=()) aF d4 (aJ _ _);have jN:=hid hQ2;clear hQ2 d4 jd bf;generalize ae (must dE) ve=qa at*;go_wp2_with fail;refine(dL ρ _ qa _ jN.out.did.at_ ⟨#[111,110,108,121]⟩).mono ?_;rintro e w5 ⟨rfl,d5⟩;rw[show qa.head (⟨#[111,110,108,121]⟩:ByteArray).data.toList=qa.head jF from rfl];have hQ3:=jN.out.jh (p:=may jF) (f:=fun only=>C2 items only) (x:=qa.head jF) aF d5 (bj _ _);generalize ae (may jF) qa=σ4 at*;generalize qa.head jF=only at*;have hQ4:=hQ3.set (m':= { items:=sl,only:=only }) (d':= { items:=items,only:=only }) aF 2 (.bool only) rfl rfl { hQ3.at_ with only:=rfl };have hf2:=hQ3.blk.frozen 2;have hc2:=hQ3.blk.cell 2;have mE:=hid hQ4;clear hQ3 hQ4 d5 jN;go_wp2_with fail;clear hf2 hc2;generalize w5.setCell ⟨w.heap.size+1,2,none⟩ (.bool only)=W6 at*;refine(dY ρ _ σ4 _ mE.out.did.at_).mono ?_;rintro e w6 ⟨bw,rfl,d6,eh⟩;have hQ5:=mE.out.jh (p:=aN) (f:=fun bw=>Uc items only bw) (x:=bw) aF d6 eh;generalize ae aN σ4=Ud at*;have hQ6:=hQ5.set (m':= { items:=sl,only:=only,bw:=bw }) (d':= { items:=items,only:=only,bw:=bw }) aF 1 (.string bw) rfl rfl { hQ5.at_ with bw:=rfl };have B5:=hQ5.blk.frozen 1;have hc1:=hQ5.blk.cell 1;have qL:=hid hQ6;clear hQ5 hQ6 d6 eh mE;go_wp2_with fail;clear B5 hc1;generalize w6.setCell ⟨w.heap.size+1,1,none⟩ (.string bw)=W7 at*;refine(wz ρ _ Ud _ qL.out.did.at_ ⟨#[119,104,101,114,101]⟩).mono ?_;rintro e w7 ⟨bK,sw,rfl,hsw,d7,eB⟩;have hs7:=qL.out.did.size;have hq7:=qL.out.blk.lt;have hQ7:=qL.out.jh (p:=cL eO) (f:=fun bK=>Ub items only bw bK) (x:=bK) aF d7 eB;generalize Ue:ae (cL eO) Ud=yy at*;clear Ue;have hQ8:=hQ7.set (m':= { items:=sl,only:=only,bw:=bw,bK:=sw }) (d':= { items:=items,only:=only,bw:=bw,bK:=bK }) aF 3 (eP sw) rfl rfl { hQ7.at_ with bK:=El.lies.more hsw (by omega)};have hf3:=hQ7.blk.frozen 3;have hc3:=hQ7.blk.cell 3;have AO:=hid hQ8;clear hQ7 hQ8 d7 eB hsw qL;obtain⟨rB,rC,rD⟩:=sw;unfold eP at*;go_upto_if 42 with fail
  clear hf3 hc3;generalize w7.setCell ⟨w.heap.size+1,3,none⟩ (.slice rB rC rD)=W8 at*;refine(dL ρ _ yy _ AO.out.did.at_ ⟨#[103,114,111,117,112]⟩).mono ?_;rintro e w8 ⟨rfl,d8⟩;rw[show yy.head (⟨#[103,114,111,117,112]⟩:ByteArray).data.toList=yy.head jI from rfl];have d8:dV ρ W8 w8 (ae (may jI) yy) _:=d8;go_upto_if 42 with fail
  go_cut [] (fun wx=>∃(group:List Tr) (sg:Sl) (bU:aW),yU ρ w big σ (wB items only bw bK group) wx bU { items:=sl,only:=only,bw:=bw,bK:=⟨rB,rC,rD⟩,group:=sg } { items:=items,only:=only,bw:=bw,bK:=bK,group:=group });case first=>
   cases hgr:yy.head jI
   ·rw[aG hgr] at d8;obtain⟨hb1,hb2⟩:=Hl hgr;have hS:=AO.out.stay aF d8;have DG:=hS.todo.go (p:=iT) (f:=fun group=>wB items only bw bK group) hb2;rw[hb1] at DG;have Cb:=hid (show yU ρ w big σ (wB items only bw bK []) w8 yy { items:=sl,only:=only,bw:=bw,bK:=⟨rB,rC,rD⟩,group:=Sl.nil } { items:=items,only:=only,bw:=bw,bK:=bK,group:=[] } from⟨hS.did,hS.blk,hS.res,hS.at_,DG⟩);clear hS DG hb1 hb2 d8 hgr AO;go_wp2_with fail;go_meet;exact⟨[],Sl.nil,_,Cb.out⟩
   ·rw[aP hgr] at d8;have HGR:=hid hgr;clear hgr;have b8:=aa w8 (.cells (aj [nx]) 9);have hw8:=(d8.blk AO.out.blk (by omega)).lt;go_wp2_with fail;refine(bk ρ _ _ _ (d8.at_.later b8) [nx] w8.heap.size 1 rfl (au.new _ _ _) (by omega) (by omega)).mono ?_;rintro e w9 ⟨rfl,d9⟩;simp only[aw] at d9;have hs8:=d8.size;have TG:=d9.size;go_wp2_with fail;refine(AZ ρ _ _ _ d9.at_).mono ?_;rintro e mY ⟨group,sg,rfl,Ml,d10,iF⟩;have hgt:=KB HGR.out iF;have hdd:=((d8.later b8).trans d9).trans d10;have hX:=hdd.blk AO.out.blk (by omega);have hf4:=hX.frozen 4;have XU:=hX.cell 4;obtain⟨sgA,sgn,sgc⟩:=sg;have DG:=AO.out.todo.go (p:=iT) (f:=fun group=>wB items only bw bK group) hgt.2;rw[hgt.1] at DG;have hQ9:=AO.out.list (m':= { items:=sl,only:=only,bw:=bw,bK:=⟨rB,rC,rD⟩,group:=⟨sgA,sgn,sgc⟩}) (d':= { items:=items,only:=only,bw:=bw,bK:=bK,group:=group }) aF hdd DG 4 (.slice sgA sgn sgc) rfl (by simp[Qu.long,Bool.or_assoc]) (fun hat=> { hat with group:=El.lies.more Ml (by simp at TG;omega)});have Cb:=hid hQ9;clear hQ9 DG hX hdd hgt Ml d10 iF d9 b8 d8 AO;unfold eP;go_wp2_with fail;go_meet;exact⟨group,⟨sgA,sgn,sgc⟩,_,Cb.out⟩
  case rest=>
   obtain⟨group,sg,σ7,hQ⟩:=hcut;clear d8 AO;have Cb:=hid hQ;clear hQ;go_wp2_with fail;refine(wz ρ _ σ7 _ Cb.out.did.at_ ⟨#[104,97,118,105,110,103]⟩).mono ?_;rintro e Fy ⟨having,sh,rfl,LU,d11,hgh⟩;have alx:=Cb.out.did.size;have aly:=Cb.out.blk.lt;have Uf:=Cb.out.jh (p:=cL lK) (f:=fun having=>Ua items only bw bK group having) (x:=having) aF d11 hgh;generalize agS:ae (cL lK) σ7=Ls at*;clear agS;obtain⟨DI,DJ,DL⟩:=sh;have acn:=Uf.set (m':= { items:=sl,only:=only,bw:=bw,bK:=⟨rB,rC,rD⟩,group:=sg,having:=⟨DI,DJ,DL⟩}) (d':= { items:=items,only:=only,bw:=bw,bK:=bK,group:=group,having:=having }) aF 5 (.slice DI DJ DL) rfl rfl { Uf.at_ with having:=El.lies.more LU (by omega)};have hf5:=Uf.blk.frozen 5;have hc5:=Uf.blk.cell 5;have BC:=hid acn;clear Uf acn d11 hgh LU Cb;unfold eP;go_upto_if 53 with fail
   clear hf5 hc5;generalize Fy.setCell ⟨w.heap.size+1,5,none⟩ (.slice DI DJ DL)=MX at*;refine(dL ρ _ Ls _ BC.out.did.at_ ⟨#[111,114,100,101,114]⟩).mono ?_;rintro e KM ⟨rfl,d12⟩;rw[show Ls.head (⟨#[111,114,100,101,114]⟩:ByteArray).data.toList=Ls.head jJ from rfl];have d12:dV ρ MX KM (ae (may jJ) Ls) _:=d12;go_upto_if 53 with fail
   go_cut [] (fun wx=>∃(order:List (Tr×Bool)) (so:Sl) (bU:aW),yU ρ w big σ (xJ items only bw bK group having order) wx bU { items:=sl,only:=only,bw:=bw,bK:=⟨rB,rC,rD⟩,group:=sg,having:=⟨DI,DJ,DL⟩,order:=so } { items:=items,only:=only,bw:=bw,bK:=bK,group:=group,having:=having,order:=order });case first=>
    cases VF:Ls.head jJ
    ·rw[aG VF] at d12;obtain⟨hb1,hb2⟩:=Fg VF;have hS:=BC.out.stay aF d12;have DG:=hS.todo.go (p:=fU) (f:=fun order=>xJ items only bw bK group having order) hb2;rw[hb1] at DG;have FI:=hid (show yU ρ w big σ (xJ items only bw bK group having []) KM Ls { items:=sl,only:=only,bw:=bw,bK:=⟨rB,rC,rD⟩,group:=sg,having:=⟨DI,DJ,DL⟩,order:=Sl.nil } { items:=items,only:=only,bw:=bw,bK:=bK,group:=group,having:=having,order:=[] } from⟨hS.did,hS.blk,hS.res,hS.at_,DG⟩);clear hS DG hb1 hb2 d12 VF BC;go_wp2_with fail;go_meet;exact⟨[],Sl.nil,_,FI.out⟩
    ·skip
     rw[aP VF] at d12;have HOR:=hid VF;clear VF;have KG:=aa KM (.cells (aj [nx]) 9);have alC:=(d12.blk BC.out.blk (by omega)).lt;go_wp2_with fail;refine(bk ρ _ _ _ (d12.at_.later KG) [nx] KM.heap.size 1 rfl (au.new _ _ _) (by omega) (by omega)).mono ?_;rintro e rk ⟨rfl,d13⟩;simp only[aw] at d13;have WU:=d12.size;have Hx:=d13.size;have hdd:=(d12.later KG).trans d13;have hX:=hdd.blk BC.out.blk (by omega);have hR0:=hdd.blk BC.out.res (by omega);have C4:=Qu.at_.keep (cK hdd.grown (by omega)) BC.out.at_;have Ug:=BC.out.did.trans hdd;have ajm:=hX.lt;have HTD:=hid BC.out.todo;clear d12 d13 KG hdd BC;generalize hso:ae (must nx) (aW.good Ls.words.tail)=Q2 at*;have HSO:=hid hso;clear hso;generalize hbg:(big || Qu.long { items:=items,only:=only,bw:=bw,bK:=bK,group:=group,having:=having })=bg at*;have HBG:=hid hbg;clear hbg;go_wp2_with fail;refine fJ (P:=Tryz.prog) (f:=Gc) (val:=X0) (e:=97) (size:=8) (base:=w.heap.size+2) (l:=[]) (lv:=.slice none 0 0) (Post:=pW iM (fun _=>false) ρ fN Q2 bg) (w0:=rk) (q:=3) (d0:=57) (d1:=58) (d2:=59) (d3:=60) (d4:=61) (d5:=62) (d6:=63) (qb:=w.heap.size+1) (k:=6) (g:=ρ.g) (pq:=.pointer (some ⟨w.heap.size+1,0,none⟩)) (ptr:=ρ.ptr) (F:=87) (args:= #[ρ.ptr]) 26 26 _ 96 (by kernel_rfl) (by kernel_rfl) (by kernel_rfl) (by kernel_rfl) (by kernel_rfl) rfl rfl ?_ ?_ ?_ ?_ ?_ ?_ ?_ Tryz.underlying26 Bw rfl (by omega) (fun _=>rfl) (by intro y u hu;simp[Gc,bl] at hu;rcases hu with rfl | rfl | rfl | rfl | rfl | rfl | rfl | rfl <;> rfl) df.nil ?_ (by omega) ?_ ?_ ?_ ?_ (by omega) ?_ ?_ ?_
     ·intro ρ' w' h';simp[go_sem,h']
     ·intro ρ' w' h';simp[go_sem,h']
     ·intro ρ' w' h' hc';simp[go_sem,h',hc']
     ·intro ρ' w' h';simp[go_sem,h']
     ·intro ρ' w' hc' h';simp[go_sem,h',hc'.const,hc'.func]
     ·intro ρ' w' y' h';simp[go_sem,h',X0,Gc,bl]
     ·intro ρ' w' s' v' Co kB jH gO;simp only[execOp,resolve,invoke,builtin,Sem.run_bind,Sem.run_pure,Result.andThen_ok,List.map_toArray,List.map_cons,List.map_nil,kB,jH,gO]
     ·exact hX.cell 6
     ·simp[Value.ownBlock]
     ·simp[Value.ownBlock]
     ·simp
     ·simp
     ·intro w' hw';refine(AY ρ w' Q2 bg (Ug.at_.later hw')).mono ?_;rintro e w'' ⟨x,y,rfl,hx,hd,hv⟩;exact⟨y,rfl,x,hx,hd,hv⟩
     ·rintro y w' w'' ⟨x,hx,hd,hv⟩;exact hd.grown
     ·intro y s v' w4 XS w5 W eU hp hl2 mC eB iz lz jW;obtain⟨_,_,dd,_⟩:=id hp;have hs1:=eU.size;have hs2:=dd.size;have hs3:=hl2.size;obtain⟨x,hgr,hdd,iF⟩:=mo (E:=iM) (T:=97) (lng:=fun _=>false) (B:=w.heap.size+2) (acc:=[]) (by omega) aF (gY.nil iM 97 rk (w.heap.size+2)) (by omega) Ug eU hp hl2 eB [] iz .nil lz;obtain⟨⟨A,n,c⟩,fE,nO,_⟩:=hgr.sl (B':=w.heap.size) (by omega);replace fE:v'=.slice A n c:=fE;subst fE;have HX:=(((hX.later eU).grown dd.grown (by simp;omega)).later hl2).later (gw eB);have HR:=(((hR0.later eU).grown dd.grown (by simp;omega)).later hl2).later (gw eB);have XV:Qu.at_ rk (ko (w.heap.size+2) (.slice none 0 0) rk) _ _:=Qu.at_.keep (fun b hb=>⟨fun _=>rfl,hb.1,hb.2,by simp[Value.ownBlock]⟩) C4;have FJ:=Qu.at_.keep (mU (show w.heap.size+1 < w.heap.size+2 by omega) 6 (.slice A n c)) (Qu.at_.keep (kH eB lz) (Qu.at_.keep (dP hl2) (Qu.at_.keep (gX dd.grown (by omega)) (Qu.at_.keep (dP eU) XV))));have zx:=HX.frozen 6;have kR:=HX.cg 6 (.slice A n c);have xt:=HR.far (p:=⟨w.heap.size+1,6,none⟩) (by simp) (.slice A n c);have Oh:=HX.lt;unfold lx at kR;simp only[List.setIfInBounds_toArray,List.set_cons_succ,List.set_cons_zero] at kR;have hI:Bz ρ w bg Q2 { items:=sl,only:=only,bw:=bw,bK:=⟨rB,rC,rD⟩,group:=sg,having:=⟨DI,DJ,DL⟩} { items:=items,only:=only,bw:=bw,bK:=bK,group:=group,having:=having } 5000 (.slice A n c) (W.setCell ⟨w.heap.size+1,6,none⟩ (.slice A n c)) (ae fN Q2) [x]:=by have hl:=aW.cw cu Q2;have nD:=Ug.at_.left;have hsm:=Ug.at_.small;refine⟨by simp,by simp;omega,by omega,hgr.far (by omega) 6 (.slice A n c),?_,kR,xt,FJ,fZ.start iF⟩;have:=hdd.far aF (show w.heap.size≤w.heap.size+1 by omega) 6 (.slice A n c);simpa using this
      have HI:=hid hI;clear hI hgr hdd iF HX HR kR xt iz lz mC hp dd eU hl2 nO FJ XV C4 hX hR0 Ug;simp only[Act.put,List.setIfInBounds_toArray,List.set_cons_succ,List.set_cons_zero];go_wp2_with fail;clear zx jW;generalize W.setCell ⟨w.heap.size+1,6,none⟩ (.slice A n c)=W4 at*;go_loopg [] 5000 (fun k wr=>∃bU acc u,Bz ρ w bg Q2 { items:=sl,only:=only,bw:=bw,bK:=⟨rB,rC,rD⟩,group:=sg,having:=⟨DI,DJ,DL⟩} { items:=items,only:=only,bw:=bw,bK:=bK,group:=group,having:=having } k u wr bU acc);case atStart=>exact⟨_,_,_,HI.out⟩
      case round=>
       obtain⟨bU,acc,u,hE⟩:=hrel;obtain⟨⟨A2,n2,c2⟩,fE,nO,_⟩:=hE.row.sl (B':=w.heap.size) (by omega);replace fE:u=.slice A2 n2 c2:=fE;replace nO:n2=acc.length:=nO;subst fE;have yi:=hid nO;have mM:0 < n2:=by have:=hE.pos;omega
       have mA:n2≤5001:=by have:=hE.few;omega
       have x6:=hE.blk.cell 6;simp only[List.getElem?_toArray,List.getElem?_cons_zero,List.getElem?_cons_succ] at x6;have gi:=hE.blk.lt;have HE:=hid hE;clear hE nO HI;go_wp2_with fail;refine(nN ρ wr bU _ HE.out.did.at_ n2 (by omega)).mono ?_;rintro e w8 ⟨rfl,d8⟩;have hs8:=d8.size;cases hh:bU.head ax
       ·rw[aG hh] at d8;have hdone:=fZ.done cu HE.out.todo hh;have U6:=Hm HOR.out (l:=acc) (by rw[HSO.out];exact hdone.2);rw[HSO.out] at U6;obtain⟨hb1,hb2⟩:=U6;have xi:=HE.out.did.trans d8;rw[yi.out,mP] at xi;have hrow:=HE.out.row.grown d8.grown (by omega);have FK:=Qu.at_.keep (sq (Nat.le_refl _)) (Qu.at_.keep (gX d8.grown (by omega)) HE.out.at_);obtain⟨C3,Lr,_,BB⟩:=hrow.sl (B':=w.heap.size+2) (Nat.le_refl _);have hQ:yU ρ w big σ (xJ items only bw bK group having acc) w8 bU { items:=sl,only:=only,bw:=bw,bK:=⟨rB,rC,rD⟩,group:=sg,having:=⟨DI,DJ,DL⟩,order:=C3 } { items:=items,only:=only,bw:=bw,bK:=bK,group:=group,having:=having,order:=acc }:=by
         refine⟨?_,?_,d8.blk HE.out.res (by omega),?_,?_⟩
         ·rw[show(big || Qu.long { items:=items,only:=only,bw:=bw,bK:=bK,group:=group,having:=having,order:=acc })=(bg || decide (64 < acc.length)) by rw[← HBG.out];simp[Qu.long,Bool.or_assoc]];exact xi
         ·have:=d8.blk HE.out.blk (by omega);rw[Lr] at this;exact this
         ·exact { FK with order:=BB }
         ·have:=(HTD.out).go (p:=fU) (f:=fun order=>xJ items only bw bK group having order) hb2;rw[hb1,hdone.1] at this;exact this
        have rj:=hid hQ;clear hQ BB Lr hrow xi hb1 hb2 hdone d8 hh FK;go_wp2_with fail;go_meet;exact⟨acc,C3,bU,rj.out⟩
       ·rw[aP hh] at d8;obtain⟨l1,l2,l3⟩:=ll hh;have lB:=hid hh;have hR:=HE.out.row.grown d8.grown (by omega);have FK:=Qu.at_.keep (gX d8.grown (by omega)) HE.out.at_;have zE:=d8.blk HE.out.blk (by omega);have Q0:=d8.blk HE.out.res (by omega);have xi:=HE.out.did.trans d8;obtain⟨ys,ho,ha⟩:∃ys:List (Ex×Bool),df Gc 97 8 w8 (w.heap.size+2) (Value.slice A2 n2 c2) ys∧jP (iM.rel w8 (ko (w.heap.size+2) (Value.slice A2 n2 c2) w8)) acc ys:=hR.has;have OT:(ys:List (Ex×Bool)).length=acc.length:=ha.len;have Ba:ys.length≤5001:=by have:=HE.out.few;omega
        have how:=fun G hG=>hR.qM (G:=G) hG
        have agL:=zE.lt;clear OT hh;go_wp2_with fail;refine fJ (P:=Tryz.prog) (f:=Gc) (val:=X0) (e:=97) (size:=8) (base:=w.heap.size+2) (l:=ys) (lv:=.slice A2 n2 c2) (Post:=pW iM (fun _=>false) ρ fN (.good bU.words.tail) ((bg || decide (64 < acc.length - 1))|| decide (64 < n2))) (w0:=w8) (q:=3) (d0:=69) (d1:=70) (d2:=71) (d3:=72) (d4:=73) (d5:=74) (d6:=75) (qb:=w.heap.size+1) (k:=6) (g:=ρ.g) (pq:=.pointer (some ⟨w.heap.size+1,0,none⟩)) (ptr:=ρ.ptr) (F:=87) (args:= #[ρ.ptr]) 26 26 _ 96 (by kernel_rfl) (by kernel_rfl) (by kernel_rfl) (by kernel_rfl) (by kernel_rfl) rfl rfl ?_ ?_ ?_ ?_ ?_ ?_ ?_ Tryz.underlying26 Bw rfl (by omega) (fun _=>rfl) (by intro y u hu;simp[Gc,bl] at hu;rcases hu with rfl | rfl | rfl | rfl | rfl | rfl | rfl | rfl <;> rfl) ho ?_ (by omega) ?_ ?_ ?_ ?_ (by omega) ?_ ?_ ?_
        ·intro ρ' w' h';simp[go_sem,h']
        ·intro ρ' w' h';simp[go_sem,h']
        ·intro ρ' w' h' hc';simp[go_sem,h',hc']
        ·intro ρ' w' h';simp[go_sem,h']
        ·intro ρ' w' hc' h';simp[go_sem,h',hc'.const,hc'.func]
        ·intro ρ' w' y' h';simp[go_sem,h',X0,Gc,bl]
        ·intro ρ' w' s' v' Co kB jH gO;simp only[execOp,resolve,invoke,builtin,Sem.run_bind,Sem.run_pure,Result.andThen_ok,List.map_toArray,List.map_cons,List.map_nil,kB,jH,gO]
        ·exact zE.cell 6
        ·intro e';have:=(how _ e').1;omega
        ·intro e';have:=(how _ e').1;omega
        ·omega
        ·omega
        ·intro w' hw';refine(AY ρ w' (.good bU.words.tail) _ (d8.at_.later hw')).mono ?_;rintro e w'' ⟨x,y,rfl,hx,hd,hv⟩;exact⟨y,rfl,x,hx,hd,hv⟩
        ·rintro y w' w'' ⟨x,hx,hd,hv⟩;exact hd.grown
        ·intro y9 s9 v9 w4 XS w5 W9 eU hp hl2 mC eB iz lz jW;obtain⟨_,_,dd,_⟩:=id hp;have hs1:=eU.size;have hs2:=dd.size;have hs3:=hl2.size;obtain⟨x9,hgr,hdd,iF⟩:=mo (E:=iM) (T:=97) (lng:=fun _=>false) (B:=w.heap.size+2) (acc:=acc) (by omega) aF hR (by omega) xi eU hp hl2 eB ys iz ha lz;obtain⟨⟨A9,n9,c9⟩,fE,Q1,_⟩:=hgr.sl (B':=w.heap.size) (by omega);replace fE:v9=.slice A9 n9 c9:=fE;subst fE;have Gd:∀(q:Nat),q < w.heap.size+2→some q≠(Value.slice A2 n2 c2).ownBlock:=fun q hq e'=>by have:=(how q e'.symm).1;omega
         have HX:=(((zE.later eU).grown dd.grown (by simp;omega)).later hl2).grown eB (Gd _ (by omega));have HR:=(((Q0.later eU).grown dd.grown (by simp;omega)).later hl2).grown eB (Gd _ (by omega));have FJ:=Qu.at_.keep (mU (show w.heap.size+1 < w.heap.size+2 by omega) 6 (.slice A9 n9 c9)) (Qu.at_.keep (kH eB lz) (Qu.at_.keep (dP hl2) (Qu.at_.keep (gX dd.grown (by omega)) (Qu.at_.keep (dP eU) FK))));have zx:=HX.frozen 6;have kR:=HX.cg 6 (.slice A9 n9 c9);have xt:=HR.far (p:=⟨w.heap.size+1,6,none⟩) (by simp) (.slice A9 n9 c9);simp only[List.setIfInBounds_toArray,List.set_cons_succ,List.set_cons_zero] at kR;have VN:=aW.cw cu (aW.good bU.words.tail);have hI:Bz ρ w bg Q2 { items:=sl,only:=only,bw:=bw,bK:=⟨rB,rC,rD⟩,group:=sg,having:=⟨DI,DJ,DL⟩} { items:=items,only:=only,bw:=bw,bK:=bK,group:=group,having:=having } (ae fN (.good bU.words.tail)).left (.slice A9 n9 c9) (W9.setCell ⟨w.heap.size+1,6,none⟩ (.slice A9 n9 c9)) (ae fN (.good bU.words.tail)) (acc++ [x9]):=by refine⟨by simp,by have:=HE.out.few;simp;omega,Nat.le_refl _,hgr.far (by omega) 6 (.slice A9 n9 c9),?_,kR,xt,FJ,fZ.go cu HE.out.todo lB.out iF⟩;have:=hdd.far aF (show w.heap.size≤w.heap.size+1 by omega) 6 (.slice A9 n9 c9);rw[yi.out,mP,Bool.or_false] at this;rw[List.length_append,List.length_singleton,Nat.add_sub_cancel];exact this
         have XT:=hid hI;clear hI hgr hdd iF HX HR kR xt iz lz mC hp dd eU hl2 Q1 eB hR zE Q0 xi ha ho how Gd FJ FK;simp only[Act.put,List.setIfInBounds_toArray,List.set_cons_succ,List.set_cons_zero];go_wp2_with fail;go_roundg (ae fN (aW.good bU.words.tail)).left;case measure=>have:=HE.out.le;omega
         case rel=>exact⟨_,_,_,XT.out⟩
   case rest=>
    obtain⟨order,so,VZ,hQ⟩:=hcut;clear d12 BC;have FI:=hid hQ;clear hQ;cases BW:VZ.head kN
    ·have hm:=eG ρ wc VZ _ FI.out.did.at_ ⟨#[108,105,109,105,116]⟩ BW;obtain⟨hb1,hb2⟩:=Hn BW;clear BW;go_wp2_with fail;refine hm.mono ?_;rintro e rp ⟨rfl,d14⟩;have hS:=FI.out.stay aF d14;have DG:=hS.todo.go (p:=jo) (f:=fun cG=>pure { items:=items,only:=only,bw:=bw,bK:=bK,group:=group,having:=having,order:=order,cG:=cG }) hb2;rw[hb1] at DG;have VM:=hid DG.done;have HS:=hid hS;obtain⟨x0,x1,x2,x3,x4,x5,x6,x7⟩:=dc hS.blk;obtain⟨z0,z1,z2,z3,z4,z5,z6,z7⟩:=iD hS.res;obtain⟨y0,y1,y2,y3,y4,y5,y6,y7⟩:=dc hS.res;unfold eP at x0 x3 x4 x5 x6 x7;clear hS DG hb1 hb2 d14 hm;go_wp2_with fail;have HP:=Jd HS.out.res { items:=sl,only:=only,bw:=bw,bK:=⟨rB,rC,rD⟩,group:=sg,having:=⟨DI,DJ,DL⟩,order:=so,cG:=Sl.nil };have HR:=dc HP;unfold yV eP at HR;obtain⟨r0,r1,r2,r3,r4,r5,r6,r7⟩:=HR;refine bodyPost_ret (v:=KP { items:=sl,only:=only,bw:=bw,bK:=⟨rB,rC,rD⟩,group:=sg,having:=⟨DI,DJ,DL⟩,order:=so,cG:=Sl.nil }) ?_ rfl ?_
     ·simp[results,Tryz.results47,go_sem,r0,r1,r2,r3,r4,r5,r6,r7];rfl
     ·refine⟨{ items:=items,only:=only,bw:=bw,bK:=bK,group:=group,having:=having,order:=order,cG:=[] },{ items:=sl,only:=only,bw:=bw,bK:=⟨rB,rC,rD⟩,group:=sg,having:=⟨DI,DJ,DL⟩,order:=so,cG:=Sl.nil },rfl,?_,?_,VM.out.2⟩
      ·exact Qu.at_.keep (et (by omega)) (HS.out.at_.yV (by omega) { items:=sl,only:=only,bw:=bw,bK:=⟨rB,rC,rD⟩,group:=sg,having:=⟨DI,DJ,DL⟩,order:=so,cG:=Sl.nil })
      ·rw[VM.out.1];exact HS.out.did.yV aF (Nat.le_refl _) { items:=sl,only:=only,bw:=bw,bK:=⟨rB,rC,rD⟩,group:=sg,having:=⟨DI,DJ,DL⟩,order:=so,cG:=Sl.nil }
    ·have hm:=mO ρ wc VZ _ FI.out.did.at_ ⟨#[108,105,109,105,116]⟩ BW;have HLI:=hid BW;have alG:=FI.out.blk.lt;clear BW;go_wp2_with fail;refine hm.mono ?_;rintro e rk ⟨rfl,d13⟩;go_wp2_with fail;refine(gM ρ _ _ _ d13.at_).mono ?_;rintro e rp ⟨k,JD,Af,rfl,d14,Zh⟩;obtain⟨hb1,hb2⟩:=KC HLI.out Zh;have DG:=FI.out.todo.go (p:=jo) (f:=fun cG=>pure { items:=items,only:=only,bw:=bw,bK:=bK,group:=group,having:=having,order:=order,cG:=cG }) hb2;rw[hb1] at DG;have VM:=hid DG.done;have Hx:=d13.size;have WT:=d14.size;have b15:=aa rp (.cells #[.int .i64 k] 2);have hdd:=(d13.trans d14).later b15;have hX:=hdd.blk FI.out.blk (by omega);have hf7:=hX.frozen 7;have Q3:=hX.cell 7;have hS:=FI.out.list (m':= { items:=sl,only:=only,bw:=bw,bK:=⟨rB,rC,rD⟩,group:=sg,having:=⟨DI,DJ,DL⟩,order:=so,cG:=⟨some ⟨rp.heap.size,0,none⟩,1,1⟩}) (d':= { items:=items,only:=only,bw:=bw,bK:=bK,group:=group,having:=having,order:=order,cG:=[k] }) aF hdd DG 7 (.slice (some ⟨rp.heap.size,0,none⟩) 1 1) rfl rfl (fun hat=> { hat with cG:=XR (au.new rp _ _) ⟨by omega,by simp⟩});have HS:=hid hS;obtain⟨x0,x1,x2,x3,x4,x5,x6,x7⟩:=dc hS.blk;obtain⟨z0,z1,z2,z3,z4,z5,z6,z7⟩:=iD hS.res;obtain⟨y0,y1,y2,y3,y4,y5,y6,y7⟩:=dc hS.res;unfold eP at x0 x3 x4 x5 x6 x7;clear hS DG hb1 hb2 d14 d13 hm Zh hdd hX b15;go_wp2_with fail;have HP:=Jd HS.out.res { items:=sl,only:=only,bw:=bw,bK:=⟨rB,rC,rD⟩,group:=sg,having:=⟨DI,DJ,DL⟩,order:=so,cG:=⟨some ⟨rp.heap.size,0,none⟩,1,1⟩};have HR:=dc HP;unfold yV eP at HR;obtain⟨r0,r1,r2,r3,r4,r5,r6,r7⟩:=HR;refine bodyPost_ret (v:=KP { items:=sl,only:=only,bw:=bw,bK:=⟨rB,rC,rD⟩,group:=sg,having:=⟨DI,DJ,DL⟩,order:=so,cG:=⟨some ⟨rp.heap.size,0,none⟩,1,1⟩}) ?_ rfl ?_
     ·simp[results,Tryz.results47,go_sem,r0,r1,r2,r3,r4,r5,r6,r7];rfl
     ·refine⟨{ items:=items,only:=only,bw:=bw,bK:=bK,group:=group,having:=having,order:=order,cG:=[k] },{ items:=sl,only:=only,bw:=bw,bK:=⟨rB,rC,rD⟩,group:=sg,having:=⟨DI,DJ,DL⟩,order:=so,cG:=⟨some ⟨rp.heap.size,0,none⟩,1,1⟩},rfl,?_,?_,VM.out.2⟩
      ·exact Qu.at_.keep (et (by omega)) (HS.out.at_.yV (by omega) { items:=sl,only:=only,bw:=bw,bK:=⟨rB,rC,rD⟩,group:=sg,having:=⟨DI,DJ,DL⟩,order:=so,cG:=⟨some ⟨rp.heap.size,0,none⟩,1,1⟩})
      ·rw[VM.out.1];exact HS.out.did.yV aF (Nat.le_refl _) { items:=sl,only:=only,bw:=bw,bK:=⟨rB,rC,rD⟩,group:=sg,having:=⟨DI,DJ,DL⟩,order:=so,cG:=⟨some ⟨rp.heap.size,0,none⟩,1,1⟩}
end Go.Proofs.YtcneefmaghoejaaGreatDoor
