/- Parts of the proof. -/
import Derived.Lib.AppendZerosOnto
import Derived.Lib.Overlaps
import Derived.Test.YtndgjggokjickaaGreatDoorXO5
namespace Go.Proofs.YtndgjggokjickaaGreatDoor.R
open List
variable{p:Prop}
set_option maxHeartbeats 90000000
set_option maxRecDepth 100000
set_option linter.unusedSimpArgs false
set_option linter.unusedVariables false
section
variable {σ:cg}
end
section
variable {α β:Type} {P k:Ps α} {σ yX:cg} {p:Ps β} {f:β->Ps α} {x:β} {z:α}
end
section
variable {α β γ:Type}
end
section
variable {α β:Type} {n:Nat} {p:Ps α} {Q Q':α->Prop} {R:β->Prop}
end
section
variable {n:Nat}
end
def acH (t:Wd):Prop:=(0<=t.n/\t.n<=9223372036854775807)/\(t.k=4->t.s∈signs)
variable{rest:List UInt8}
theorem acI{r:List UInt8} {w:Wd}(h:ia r=.ok (w,rest)):acH w:=by
 match r with
 | []=>cases h
 | c::r=>
   simp only[ia] at h;split at h
   ·exact Ze3
   split at h
   ·split at h
    ·rename_i hb;injection h with h;injection h with h1 h2;subst h1;refine⟨?_,λ e=>by simp at e⟩;simp only[Bool.and_eq_true,vR,decide_eq_true_eq] at hb;have:=hb.1.2;simp only;omega
    ·cases h
   split at h
   ·exact Ze3
   ·split at h
    ·rename_i s hs;injection h with h;injection h with h1 h2;subst h1;exact⟨⟨by simp,by simp⟩,λ _=>(qZ hs).1⟩
    ·cases h
theorem Mc (n:Nat):∀(f:Nat) (r:List UInt8) (l:List qX),xE n f r=.ok l->(∃b,l=b++ [⟨⟨0,[],0⟩,n⟩])/\l.length<=r.length+1/\∀t∈l,acH t.w
 | 0,r,l,h=>by cases h
 | f+1,r,l,h=>by
   have hle:=kq false r;simp only[xE] at h;split at h
   ·injection h with h;subst h;exact⟨⟨[],rfl⟩,by simp,λ t ht=>by simp at ht;subst ht;exact⟨⟨by simp,by simp⟩,λ e=>by simp at e⟩⟩
   ·rename_i c r' hsk;rw[hsk] at hle;split at h
    ·cases h
    ·rename_i w rest ho;have hlt:=Au ho;split at h
     ·cases h
     ·rename_i l' hl';injection h with h;subst h;obtain⟨⟨b,hb⟩,h1,h2⟩:=Mc n f rest l' hl';refine⟨⟨⟨w,_⟩::b,by rw[hb];rfl⟩,by simp only[length_cons] at hlt hle ⊢;omega,λ t ht=>?_⟩;rcases List.mem_cons.1 ht with rfl | ht
      ·exact acI ho
      ·exact h2 t ht
variable{s:List UInt8}
theorem Td{l:List qX}(h:zO s=.ok l):(∃b n,l=b++ [⟨⟨0,[],0⟩,n⟩])/\l.length<=4097/\∀t∈l,acH t.w:=by
 unfold zO at h;split at h
 ·cases h
 ·rename_i hs;obtain⟨⟨b,hb⟩,h1,h2⟩:=Mc _ _ _ _ h;exact⟨⟨b,_,hb⟩,by omega,h2⟩
theorem Vv{l:List qX}(h:zO s=.ok l):yS (l.map (·.w)):=by obtain⟨⟨b,n,rfl⟩,_⟩:=Td h;exact⟨b.map (·.w),⟨0,[],0⟩,by simp,rfl⟩
open Go.ChangeShapes Go.WideShapes Go.ChangeAt Go.RowKit
theorem Gc:(Tryz.prog.info? 48).map (λ i=>(i.zero,i.size,i.bytes))=some (some (.agg #[ag 0,ag 0,af 0,au,au,af 0,az,au]),8,104):=by exact Zgu
variable{α:Type}
def afx(E:El α)(lng:α->Bool)(ρ:dv)(p:Ps α)(σ:cg)(big:Bool)(y:E.β)(w w':World):Prop:=∃x:α,E.rel w' (jo w.heap.size w') x y/\eE ρ w w' (dr p σ) (big || lng x)/\kr p σ x
variable{E:El α}{T:TypeId}{lng:α->Bool}{ρ:dv}{σ:cg}{big:Bool}{w0 wr w1 gG w2 W:World}{B:Nat}{v v':Value}{acc:List α}{y:E.β}
theorem PU{p:Ps α}       (hB:w0.heap.size<=B)(hg:ρ.g < w0.heap.size)(hR:ku E T wr B v acc)(hBr:B<=wr.heap.size)(hD:eE ρ w0 wr σ big)(fq:ai wr w1)(hp:afx E lng ρ p σ big y w1 gG)(hl2:ai gG w2)(bJ:w2.grownBy W v.ownBlock)
  (ys:List E.β) (LD:aH E.f T E.size W B v' (ys++ [y])) (hys:mC (E.rel wr (xS B v wr)) acc ys) (hv:v'.ownBlock=v.ownBlock\/v'.ownBlock=some w2.heap.size):
  ∃x:α,ku E T W B v' (acc++ [x])/\eE ρ w0 W (dr p σ) (big || lng x)/\kr p σ x:=by
 obtain⟨x,hx,hd,XK⟩:=hp;have hgB:ρ.g < B:=by omega
 have own:∀G,v.ownBlock=some G->B<=G/\G < wr.heap.size:=λ G hG=>hR.PQ hG
 refine⟨x,⟨ys++ [y],LD,mC.append ?_ (.one ?_)⟩,?_,XK⟩
 ·exact hys.imp λ a b hab=>E.keep (Co bJ hv) (E.keep (pz hl2) (E.keep (py hd.grown hgB) (E.keep (pz fq) hab)))
 ·refine E.keep (Co bJ hv) (E.keep (E9 (B:=w1.heap.size) (B':=B) (Nat.le_trans hBr fq.size) λ G hG=>?_) (E.keep (iU hl2) hx));exact Nat.lt_of_lt_of_le (own G hG).2 fq.size
 ·exact(((hD.later fq).trans hd).later hl2).own hg bJ λ G hG=>by have:=(own G hG).1;omega
variable{q:Nat}{w:World}
theorem Md(hq:q < B)(i:Nat)(u:Value):∀b,xS B v w b->(∀o,(w.setCell ⟨q,i,none⟩ u).cell? ⟨b,o,none⟩=w.cell? ⟨b,o,none⟩)/\xS B v (w.setCell ⟨q,i,none⟩ u) b:=λ b hb=>
 ⟨cell_of_heap (Below.heap_setCell w ⟨q,i,none⟩ u b (by have:=hb.1;simp;omega)),hb.1,by simpa [World.setCell] using hb.2.1,hb.2.2⟩
theorem ku.far{l:List α}(h:ku E T w B v l)(hq:q < B)(i:Nat)(u:Value):ku E T (w.setCell ⟨q,i,none⟩ u) B v l:=by
 have vr:=λ G hG=>(h.PQ (G:=G) hG).1
 obtain⟨ys,h1,h2⟩:=h.has;exact⟨ys,h1.keep λ g hg=>Below.heap_setCell w ⟨q,i,none⟩ u g (by have:=vr g hg;simp;omega),h2.imp λ x y=>E.keep (Md hq i u)⟩
def quZ:Obj:=.cells #[az,au,.bool false,az,az,az,az,az] 27
theorem PV:(Tryz.prog.info? 117).map (λ i=>(i.zero,i.size,i.bytes))=some (some (.agg #[ag 0,ag 0,af 0,au,au,af 0,az,.bool false]),8,96):=by exact Zgu
def zV (w:World)(q:Nat)(m:xR):World:=(((((((w.setCell ⟨q,0,none⟩ (nL m.items)).setCell ⟨q,1,none⟩ (.string m.bS)).setCell ⟨q,2,none⟩ (.bool m.only)).setCell ⟨q,3,none⟩ (nL m.cC)).setCell ⟨q,4,none⟩ (nL m.group)).setCell ⟨q,5,none⟩ (nL m.having)).setCell ⟨q,6,none⟩ (nL m.order)).setCell ⟨q,7,none⟩ (nL m.dx)
variable{a b e f g i:Value}
theorem Me{c d:Value}(h:aB w q T #[a,b,c,d,e,f,g,i])(m:xR):aB (zV w q m) q T (LV m).toArray:=by have:=(((((((h.aT 0 (nL m.items)).aT 1 (.string m.bS)).aT 2 (.bool m.only)).aT 3 (nL m.cC)).aT 4 (nL m.group)).aT 5 (nL m.having)).aT 6 (nL m.order)).aT 7 (nL m.dx);exact ZdI
theorem eE.zV(h:eE ρ W w σ big)(hW:ρ.g < W.heap.size)(hq:W.heap.size<=q)(m:xR):eE ρ W (zV w q m) σ big:=
 (((((((h.far hW hq 0 _).far hW hq 1 _).far hW hq 2 _).far hW hq 3 _).far hW hq 4 _).far hW hq 5 _).far hW hq 6 _).far hW hq 7 _
variable{d:Qu}{m:xR}
theorem Qu.at_.zV(h:d.at_ w (jo B w) m)(hq:q < B)(m':xR):d.at_ (zV w q m') (jo B (Go.Proofs.YtndgjggokjickaaGreatDoor.R.zV w q m')) m:=by
 have s:=λ(w:World) (h:d.at_ w (jo B w) m) (i:Nat) (u:Value)=>Qu.at_.keep (sG (w:=w) hq i u) h
 exact s _ (s _ (s _ (s _ (s _ (s _ (s _ (s _ h 0 _) 1 _) 2 _) 3 _) 4 _) 5 _) 6 _) 7 _
variable{S:Nat->Prop}{G:Nat}
theorem acJ{k:Int}(h:aB w G 2 #[af k])(hS:S G):Sz.sl w S ⟨some ⟨G,0,none⟩,1,1⟩ [k]:=
 ⟨rfl,[k],Pr (f:=λ k:Int=> [Value.int .i64 k]) (λ _=>rfl) h hS,.one rfl⟩
section
variable {ρ:dv} {w wr w2:World} {big:Bool} {σ yX:cg} {m:xR} {d:Qu}
end
inductive acK (s:List UInt8):dI->List Tr->dI->Prop
 | none {l:dI} (h:dJ s l=false):acK s l [] l
 | some {k:Wd} {l r:dI} {x:Tr} (h:iY s k=true) (H:cT 0 l x r):acK s (k::l) [x] r
inductive uy:dI->List (Tr×ByteArray)->dI->Prop
 | one {l r:dI} {u:Wd} {x:Tr} (H:cT 0 l x (u::r)) (ha:iY acm u=false) (hc:iY dM u=false):uy l [(x,ByteArray.empty)] (u::r)
 | cons {l l2 r:dI} {c:Wd} {x:Tr} {xs:List (Tr×ByteArray)} (H:cT 0 l x (c::l2)) (ha:iY acm c=false) (hc:iY dM c=true) (h:uy l2 xs r):uy l ((x,ByteArray.empty)::xs) r
inductive Te:dI->List (Tr×ByteArray)->dI->Prop
 | done {r:dI} {u:Wd} (hc:iY dM u=false):Te (u::r) [] (u::r)
 | more {l r:dI} {c:Wd} {xs:List (Tr×ByteArray)} (hc:iY dM c=true) (h:uy l xs r):Te (c::l) xs r
variable{l r:dI}{xs:List (Tr×ByteArray)}
theorem uy.first(h:uy l xs r):∃(x:Tr) (ys:List (Tr×ByteArray)) (c:Wd) (l2:dI),xs=(x,ByteArray.empty)::ys/\cT 0 l x (c::l2)/\iY acm c=false/\Te (c::l2) ys r:=by
 cases h with
 | one H ha hc=>exact⟨_,_,_,_,rfl,H,ha,.done hc⟩
 | cons H ha hc h=>exact⟨_,_,_,_,rfl,H,ha,.more hc h⟩
inductive ahP:dI->List Tr->dI->Prop
 | none {l:dI} (h:dJ Ax l=false):ahP l [] l
 | some {k b u:Wd} {l r:dI} {x:Tr} (h:iY Ax k=true) (hb:iY Pl b=true) (hc:iY dM u=false) (H:cT 0 l x (u::r)):ahP (k::b::l) [x] (u::r)
inductive ahQ:dI->List (Tr×Bool)->dI->Prop
 | none {l:dI} (h:dJ II l=false):ahQ l [] l
 | some {k b d u:Wd} {l r:dI} {x:Tr} (h:iY II k=true) (hb:iY Pl b=true) (hd:iY Pm d=true) (hc:iY dM u=false) (H:cT 0 l x (d::u::r)):ahQ (k::b::l) [(x,true)] (u::r)
inductive ahR:dI->List Int->dI->Prop
 | none {l:dI} (h:dJ IJ l=false):ahR l [] l
 | some {k n:Wd} {r:dI} (h:iY IJ k=true) (hn:n.k=2):ahR (k::n::r) [n.n] r
structure XL (ρ:dv) (w wr:World) (l:dI) (m:xR) (d:Qu):Prop where
 did:eE ρ w wr (.good l) false
 blk:aB wr (w.heap.size+1) 27 (LV m).toArray
 res:aB wr w.heap.size 27 #[az,au,.bool false,az,az,az,az,az]
 at_:d.at_ wr (jo (w.heap.size+2) wr) m
section
variable {ρ:dv} {w wr w2:World} {l r:dI} {m:xR} {d:Qu}
theorem XL.later (A:XL ρ w wr l m d)(hb:aj wr w2):XL ρ w w2 l m d:=
 ⟨A.did.later hb,A.blk.later hb,A.res.later hb,Qu.at_.keep (iU hb) A.at_⟩
theorem XL.EB (A:XL ρ w wr l m d)(hg:ρ.g < w.heap.size)(dd:eE ρ wr w2 (.good r) false):XL ρ w w2 r m d:=
 ⟨A.did.trans dd,dd.blk A.blk Tq,dd.blk A.res Tq,Qu.at_.keep (lK dd.grown Tq) A.at_⟩
theorem XL.set {m':xR} {d':Qu}(A:XL ρ w wr l m d)(hg:ρ.g < w.heap.size)(i:Nat)(u:Value)(hb:(LV m').toArray=(LV m).toArray.setIfInBounds i u)(hat:Qu.at_ wr (jo (w.heap.size+2) wr) d' m'):XL ρ w (wr.setCell ⟨w.heap.size+1,i,none⟩ u) l m' d':=by refine⟨A.did.far hg Tq i u,?_,A.res.far (p:=⟨w.heap.size+1,i,none⟩) Vb u,Qu.at_.keep (sG Tq i u) hat⟩;rw[hb];exact A.blk.aT i u
end
def amW(x:α)(r:dI):Ps α:=λ _=> .ok (x,r)
structure PuA {α:Type} (E:El α) (T:TypeId) (ρ:dv) (w wr:World) (l:dI) (k:Nat) (v:Value) (acc:List α) (cs:List Value) (m:xR) (d:Qu):Prop where
 row:ku E T wr (w.heap.size+2) v acc
 did:eE ρ w wr (.good l) false
 blk:aB wr (w.heap.size+1) 27 cs.toArray
 res:aB wr w.heap.size 27 #[az,au,.bool false,az,az,az,az,az]
 at_:d.at_ wr (xS (w.heap.size+2) v wr) m
 cel:cs[k]?=some v
variable{k:Nat}{cs:List Value}
theorem PuA.EB(A:PuA E T ρ w wr l k v acc cs m d)(hg:ρ.g < w.heap.size)(dd:eE ρ wr w2 (.good r) false):PuA E T ρ w w2 r k v acc cs m d:=
 ⟨A.row.grown dd.grown Tq,A.did.trans dd,dd.blk A.blk Tq,dd.blk A.res Tq,Qu.at_.keep (py dd.grown Tq) A.at_,A.cel⟩
variable{m':xR}{d':Qu}
theorem PuA.done(A:PuA E T ρ w wr l k v acc cs m d)(hm:(LV m').toArray=cs.toArray)(hat:Qu.at_ wr (jo (w.heap.size+2) wr) d' m'):XL ρ w wr l m' d':=
 ⟨A.did,hm▸A.blk,A.res,hat⟩
variable{val:E.β->Value}{z:Value}{bytes:Nat}{x:α}{lv:Value}{Q:Exit->Act->World->Prop}{a0:Act}{rid:Nat}{o0 o1 o2 o3 o4 o5 o6 o7:Oper}{d0 d1 d2 d3 d4 d5 d6:Tmp}{F:FuncId}
theorem PW{q:Tmp} (t ty:TypeId)
  (A:PuA E T ρ w wr l k lv acc cs m d) (dZ:ρ.g < w.heap.size) (hn:acc.length<=64) (hby:bytes<=1000)
  (hc:∀w',ρ.at w' (.good l) false->ar F #[ρ.ptr] w' (ElW E val ρ w' x r))
  (aZ:dO [o0,o1,o2,o3,o4,o5,o6] a0.tmps.size [o0,o1,o2,o3,o4,o5,o6] 0=true) (hz:eJ [o0,o1,o2,o3,o4,o5,o6,o7] [o7] 7=true) (hch:lr [o0,o1,o2,o3,o4,o5,o6] [3,4,5]=true) (Cj:Ci o0 o1 o2 o3 o4 o5 o6 q d0 d1 d2 d3 d4 d5 d6=true)
  (hq:a0.eval (.tmp q)=aw (w.heap.size+1)) (h0:a0.eval (.tmp 0)=ρ.ptr)
  (hfa:∀ρ' w',ρ' (.tmp q)=aw (w.heap.size+1)->(execOp ρ' o0).run Tryz.prog w'=.ok (.value (ba (w.heap.size+1) k)) w')
  (C3:∀ρ' w',ρ' (.tmp q)=aw (w.heap.size+1)->(execOp ρ' o6).run Tryz.prog w'=.ok (.value (ba (w.heap.size+1) k)) w')
  (hld:∀ρ' w',ρ' (.tmp d0)=ba (w.heap.size+1) k->w'.cell? ⟨w.heap.size+1,k,none⟩=some lv->(execOp ρ' o1).run Tryz.prog w'=.ok (.value lv) w')
  (Ew:∀ρ' w',ρ' (.tmp 0)=ρ.ptr->(execOp ρ' o2).run Tryz.prog w'=.ok (.value ρ.ptr) w')
  (bU:∀ρ' w',oD ρ'->ρ' (.tmp d2)=ρ.ptr->(execOp ρ' o3).run Tryz.prog w'=.ok (.enter F #[ρ.ptr]) w')
  (JY:∀ρ' w' y,ρ' (.tmp d3)=val y->(execOp ρ' o4).run Tryz.prog w'=.ok (.value (aI w'.heap.size 1 1)) (w'.alloc (.cells (E.f y).toArray T)))
  (hap:∀ρ' w' s v' C4,ρ' (.tmp d1)=lv->ρ' (.tmp d4)=s->(Builtin.append_ #[t,t] ty #[lv,s]).run Tryz.prog w'=.ok v' C4->(execOp ρ' o5).run Tryz.prog w'=.ok (.value v') C4)
  (ht:Tryz.prog.underlying t=some (.slice T)) (jr:(Tryz.prog.info? T).map (λ i=>(i.zero,i.size,i.bytes))=some (some z,E.size,bytes)) (hzs:z.cells.size=E.size) (hsz:0 < E.size) (hf:∀x,(E.f x).length=E.size) (h1:∀y,∀u∈E.f y,u.oneCell'=true)
  (mg:∀y s v' W,PuA E T ρ w (W.setCell ⟨w.heap.size+1,k,none⟩ v') r k v' (acc++ [x]) (cs.set k v') m d->W.cell? ⟨w.heap.size+1,k,none⟩=some lv->W.frozen? ⟨w.heap.size+1,k,none⟩=false->
    wpList Tryz.prog [o0,o1,o2,o3,o4,o5,o6,o7].toArray Q [o7] (((((((a0.put (some d0) (ba (w.heap.size+1) k)).put (some d1) lv).put (some d2) ρ.ptr).put (some d3) (val y)).put (some d4) s).put (some d5) v').put (some d6) (ba (w.heap.size+1) k)) W):
  (Code.region rid [o0,o1,o2,o3,o4,o5,o6,o7].toArray true).wp Tryz.prog Q a0 wr:=by
 obtain⟨ys,ho,ha⟩:=A.row.has;have hyl:ys.length=acc.length:=ha.len;have how:=λ G hG=>A.row.PQ (G:=G) hG
 have hwr:=A.blk.lt;refine Jc (P:=Tryz.prog) (f:=E.f) (val:=val) (e:=T) (size:=E.size) (base:=w.heap.size+2) (l:=ys) (lv:=lv) (Post:=afx E (λ _=>false) ρ (amW x r) (.good l) false) (w0:=wr) (qb:=w.heap.size+1) (k:=k) (g:=ρ.g) (ptr:=ρ.ptr) (F:=F) (args:= #[ρ.ptr]) t ty z bytes T8 aZ hz hch Cj hq h0 hfa C3 hld Ew bU JY hap ht jr hzs hsz hf h1 ho ((A.blk.cell k).trans (by simpa using A.cel)) Tq (λ e'=>by have:=(how _ e').1;omega) (λ e'=>by have:=(how _ e').1;omega) (Nat.le_trans (Nat.mul_le_mul (show _<=65 by omega) hby) WC) Tq Tq ?_ ?_ ?_
 ·intro w' hw';refine(hc w' (A.did.at_.later hw')).mono ?_;rintro e w'' ⟨y,rfl,hx,hd⟩;exact⟨y,rfl,x,hx,by rw[Bool.or_false];exact hd,rfl⟩
 ·rintro y w' w'' ⟨x,hx,hd,hv⟩;exact hd.grown
 ·intro y s v' w4 w4' w5 W fq hp hl2 ho2 bJ LD Oe Ey;obtain⟨_,_,dd,_⟩:=id hp;have hs1:=fq.size;have hs2:=dd.size;have hs3:=hl2.size;obtain⟨x',hgr,hdd,XK⟩:=PU (E:=E) (T:=T) (lng:=λ _=>false) (B:=w.heap.size+2) (acc:=acc) Tq dZ A.row Tq A.did fq hp hl2 bJ ys LD ha Oe;obtain rfl:x'=x:=XK;have hnq:∀(q:Nat),q < w.heap.size+2->some q≠lv.ownBlock:=λ q hq e'=>by have:=(how q e'.symm).1;omega
  have HX:=(((A.blk.later fq).grown dd.grown Va).later hl2).grown bJ (hnq _ Tq);have HR:=(((A.res.later fq).grown dd.grown Va).later hl2).grown bJ (hnq _ Tq);have kI:=HX.aT k v';simp only[setIfInBounds_toArray] at kI;refine mg y s v' W ⟨hgr.far Tq k v',by have:=hdd.far dZ (show w.heap.size<=w.heap.size+1 by omega) k v';rwa [Bool.or_false] at this,kI,HR.far (p:=⟨w.heap.size+1,k,none⟩) Vb v',Qu.at_.keep (Md (show w.heap.size+1 < w.heap.size+2 by omega) k v') (Qu.at_.keep (Co bJ Oe) (Qu.at_.keep (pz hl2) (Qu.at_.keep (py dd.grown Tq) (Qu.at_.keep (pz fq) A.at_)))),?_⟩ Ey (HX.frozen k);have:=A.cel;rw[getElem?_set_self (by rcases Nat.lt_or_ge k cs.length with h | h;exact h;rw[getElem?_eq_none h] at this;cases this)]
structure ItC (ρ:dv) (w:World) (xs:List (Tr×ByteArray)) (r:dI) (k:Nat) (wr:World) (A:Option Addr) (n c:Nat) (acc ys:List (Tr×ByteArray)) (l:dI):Prop where
 at_:PuA rb 48 ρ w wr l 0 (.slice A n c) acc [.slice A n c,au,.bool false,az,az,az,az,az] {} {}
 more:Te l ys r
 aO:acc++ys=xs
 len:n=acc.length
 le:ys.length<=k
theorem afy (s:ByteArray)(l:dI)(ρ:dv)(w:World)(h:ρ.at w (.good l) false):ar 87 #[ρ.ptr,.string s] w λ e w'=>∃b,b=dJ s.data.toList l/\e=.returned (.bool b)/\eE ρ w w' (.good (if b=true then l.tail else l)) false:=by
 cases hb:dJ s.data.toList l with
 | false=>exact(cj ρ w _ false h s hb).mono λ e w' ⟨h1,h2⟩=>⟨false,rfl,h1,h2⟩
 | true=>exact(nZ ρ w _ false h s hb).mono λ e w' ⟨h1,h2⟩=>⟨true,rfl,h1,h2⟩
theorem F4{s:ByteArray}  {W:List Tr}(h:acK s.data.toList l W r)(ρ:dv)(w:World)(hat:ρ.at w (.good l) false):ar 142 #[ρ.ptr,.string s] w (SlW ρ w W r):=by
 cases h with
 | none h=>exact Gb h ρ w hat
 | some h H=>exact PS h H ρ w hat
variable{k0 kf nm:Wd}{l1 l2 l3 l4:dI}{cC group:List Tr}{order:List (Tr×Bool)}{lim:List Int}
theorem zhI.Kb9(h:p:=by
 have HP:=Me HS.ae.res { items:=EC,bS:=bS,cC:=⟨Gd,Ge,Gf⟩,group:=sg,having:=⟨Mg,Mh,Mi⟩,order:=so,dx:=Sl.nil };have HR:=dy HP;unfold zV nL at HR;obtain⟨r0,r1,r2,r3,r4,r5,r6,r7⟩:=HR;refine bodyPost_ret (v:=quV { items:=EC,bS:=bS,cC:=⟨Gd,Ge,Gf⟩,group:=sg,having:=⟨Mg,Mh,Mi⟩,order:=so,dx:=Sl.nil }) Zhn rfl ?_
 ·refine⟨{ items:=EC,bS:=bS,cC:=⟨Gd,Ge,Gf⟩,group:=sg,having:=⟨Mg,Mh,Mi⟩,order:=so,dx:=Sl.nil },rfl,?_,HS.ae.did.zV dZ (Nat.le_refl _) { items:=EC,bS:=bS,cC:=⟨Gd,Ge,Gf⟩,group:=sg,having:=⟨Mg,Mh,Mi⟩,order:=so,dx:=Sl.nil }⟩;rw[oz.ae,<- Kx.ae];exact Qu.at_.keep (jf Tq) (HS.ae.at_.zV Tq { items:=EC,bS:=bS,cC:=⟨Gd,Ge,Gf⟩,group:=sg,having:=⟨Mg,Mh,Mi⟩,order:=so,dx:=Sl.nil })):p:=h
theorem zhJ.Kb9(h:p:=by
 have HP:=Me HS.ae.res { items:=EC,bS:=bS,cC:=⟨Gd,Ge,Gf⟩,group:=sg,having:=⟨Mg,Mh,Mi⟩,order:=so,dx:=⟨some ⟨Ta.heap.size,0,none⟩,1,1⟩};have HR:=dy HP;unfold zV nL at HR;obtain⟨r0,r1,r2,r3,r4,r5,r6,r7⟩:=HR;refine bodyPost_ret (v:=quV { items:=EC,bS:=bS,cC:=⟨Gd,Ge,Gf⟩,group:=sg,having:=⟨Mg,Mh,Mi⟩,order:=so,dx:=⟨some ⟨Ta.heap.size,0,none⟩,1,1⟩}) Zhn rfl ?_
 ·refine⟨{ items:=EC,bS:=bS,cC:=⟨Gd,Ge,Gf⟩,group:=sg,having:=⟨Mg,Mh,Mi⟩,order:=so,dx:=⟨some ⟨Ta.heap.size,0,none⟩,1,1⟩},rfl,?_,HS.ae.did.zV dZ (Nat.le_refl _) { items:=EC,bS:=bS,cC:=⟨Gd,Ge,Gf⟩,group:=sg,having:=⟨Mg,Mh,Mi⟩,order:=so,dx:=⟨some ⟨Ta.heap.size,0,none⟩,1,1⟩}⟩;rw[oz.ae,<- Kx.ae,<- hk.ae];exact Qu.at_.keep (jf Tq) (HS.ae.at_.zV Tq { items:=EC,bS:=bS,cC:=⟨Gd,Ge,Gf⟩,group:=sg,having:=⟨Mg,Mh,Mi⟩,order:=so,dx:=⟨some ⟨Ta.heap.size,0,none⟩,1,1⟩})):p:=h
theorem zcO.Kaw(h:p:=by
 have HI0:=aa (Cp ha0 H0);have HM0:=aa NK;clear hF ih hit q1 q2 q3 q4 q5 Az TG D9 hz ND ha0 H0 NK;have hb2:=ai.then (ai.then (ah w quZ) (ah _ quZ)) (ah _ (.cells (bL [fj]) 9));have h0:=h.later hb2;have HQ:=aa (((aB.new w 27 #[az,au,.bool false,az,az,az,az,az]).alloc quZ).alloc (.cells (bL [fj]) 9));have hL0:=aB.new (w.alloc quZ) 27 #[az,au,.bool false,az,az,az,az,az];rw[World.size_alloc] at hL0;have HL:=aa (hL0.alloc (.cells (bL [fj]) 9));have hS0:=aB.new ((w.alloc quZ).alloc quZ) 9 (bL [fj]);rw[World.size_alloc,World.size_alloc] at hS0;clear hL0;unfold quZ at*;go_enter Tryz.func134,Tryz.ntmps134;go_wp2_with fail;refine(mj HF.ae ρ _ h0 (w.heap.size+2) hS0 Tq).mono ?_;rintro e w1 ⟨rfl,d1⟩;have HA:=aa (show PuA rb 48 ρ w w1 l 0 (az) [] [az,au,.bool false,az,az,az,az,az] {} {} from⟨ku.nil rb _ w1 _,(eE.cZ h hb2).trans d1,HL.ae.grown d1.grown Va,HQ.ae.grown d1.grown Va,Qu.E4 _ _,rfl⟩);clear HL HQ hS0 h0 d1 hb2;go_wp2_with fail;refine(cj ρ w1 _ _ HA.ae.did.at_ ⟨#[42]⟩ IH.ae).mono ?_;rintro e w3 ⟨rfl,d3⟩;have PX:=aa (HA.ae.EB dZ d3);clear d3 HA;go_wp2_with fail;refine PW (E:=rb) (val:=itV) (T:=48) (q:=3) (d0:=10) (d1:=11) (d2:=12) (d3:=13) (d4:=14) (d5:=15) (d6:=16) (F:=178) 22 22 PX.ae dZ Vb Tq (λ w' hw=>HI0.ae ρ w' hw) T8 T8 T8 T8 rfl rfl ?_ ?_ ?_ ?_ ?_ ?_ ?_ Tryz.underlying22 Gc rfl WC (λ _=>rfl) (by intro y u hu;replace hu:u∈Tb y:=hu;simp[Tb,bF] at hu;rcases hu with rfl | rfl | rfl | rfl | rfl | rfl | rfl | rfl <;> rfl) ?_
 ·exact Zb9
 ·exact Zb9
 ·exact Zdw
 ·exact Zb9
 ·exact Zey
 ·exact ZfQ
 ·exact ZfO
 intro y s v' W A4 bU hxf;obtain⟨⟨A,n,c⟩,KK,NP,_⟩:=A4.row.sl (B':=w.heap.size) Tq;replace KK:v'=.slice A n c:=KK;replace NP:n=1:=NP;subst KK;have HI:=aa (show ItC ρ w ((x0,ByteArray.empty)::ys0) (kf::nm::l1) ys0.length (W.setCell ⟨w.heap.size+1,0,none⟩ (.slice A n c)) A n c [(x0,ByteArray.empty)] ys0 (c0::l0)from⟨A4,HM0.ae,rfl,NP,Nat.le_refl _⟩);clear A4 NP HM0 HI0 PX;simp only[Act.put,Uac];go_wp2_with fail;clear hxf bU;generalize W.setCell ⟨w.heap.size+1,0,none⟩ (.slice A n c)=W4 at*;generalize hXS:(x0,ByteArray.empty)::ys0=xs at*;have oz:=aa hXS;clear hXS;generalize ys0.length=kk at*;generalize [(x0,ByteArray.empty)]=aAF at*;generalize c0::l0=lc at*;go_loopg [] kk (λ k wr=>∃A n c acc ys l',ItC ρ w xs (kf::nm::l1) k wr A n c acc ys l');case atStart=>exact⟨_,_,_,_,_,_,HI.ae⟩
 case round=>
  obtain⟨A2,n2,c2,acc,ys,l',hE⟩:=hrel;have hlen:acc.length<=64:=by have:=Q1.ae;rw[<- hE.aO,length_append] at this;omega
  have x0:=hE.at_.blk.cell 0;simp only[Uaa] at x0;have Tf:=hE.at_.blk.lt;have HN:=aa hE.len;have HE:=aa hE;have UU:=aa hlen;clear hE HI hlen;go_wp2_with fail;rcases HE.ae.more with ⟨hc⟩|⟨hc,hit⟩
  ·refine(Calls.mono (P:=Tryz.prog) (by rw[HN.ae];exact Jd hc acc.length UU.ae ρ wr HE.ae.at_.did.at_) ?_);rintro e w8 ⟨rfl,d8⟩;have hA:=HE.ae.at_.EB dZ d8;obtain⟨EC,ana,hn8,Mf⟩:=hA.row.sl (B':=w.heap.size+2) (Nat.le_refl _);clear hn8;have hax:acc=xs:=by have:=HE.ae.aO;rwa [append_nil] at this
   have Vh:=aa (hA.done (m':= { items:=EC }) (d':= { items:=xs }) (by rw[ana];rfl) { Qu.E4 w8 _ with items:=hax▸Mf });clear Mf ana hA d8 hax hc;have XI:=Vh.ae.blk.lt;have bf:=ah w8 (.cells (bL [xF]) 9);have HQF:=aa (Vh.ae.later bf);clear HE Vh;go_wp2_with fail;refine(mj HFN.ae ρ _ HQF.ae.did.at_ w8.heap.size (aB.new _ _ _) Tq).mono ?_;rintro e w4 ⟨rfl,d4⟩;have yZ:=aa (HQF.ae.EB dZ d4);clear HQF d4 bf;go_wp2_with fail;refine(cj ρ _ _ _ yZ.ae.did.at_ ⟨#[111,110,108,121]⟩ Q3.ae).mono ?_;rintro e w5 ⟨rfl,d5⟩;have hQ3:=yZ.ae.EB dZ d5;have F3:=aa (hQ3.set (m':= { items:=EC }) (d':= { items:=xs }) dZ 2 (.bool false) rfl hQ3.at_);have hf2:=hQ3.blk.frozen 2;have hc2:=hQ3.blk.cell 2;clear hQ3 d5 yZ;go_wp2_with fail;clear hf2 hc2;generalize w5.setCell ⟨w.heap.size+1,2,none⟩ (.bool false)=W6 at*;refine(Cm Q4.ae Q5.ae ρ _ F3.ae.did.at_).mono ?_;rintro e w6 ⟨bS,anc,rfl,d6⟩;have Kx:=aa anc;clear anc;have hQ5:=F3.ae.EB dZ d6;have zT:=aa (hQ5.set (m':= { items:=EC,bS:=bS }) (d':= { items:=xs,bS:=bS }) dZ 1 (.string bS) rfl { hQ5.at_ with bS:=rfl });have hf1:=hQ5.blk.frozen 1;have hc1:=hQ5.blk.cell 1;clear hQ5 d6 F3;go_wp2_with fail;clear hf1 hc1;generalize w6.setCell ⟨w.heap.size+1,1,none⟩ (.string bS)=W7 at*;refine(F4 (s:=⟨#[119,104,101,114,101]⟩) oC.ae ρ _ zT.ae.did.at_).mono ?_;rintro e w7 ⟨⟨Gd,Ge,Gf⟩,rfl,hsw,d7⟩;have hs7:=zT.ae.did.size;have hq7:=zT.ae.blk.lt;have hQ7:=zT.ae.EB dZ d7;have IY:=aa (hQ7.set (m':= { items:=EC,bS:=bS,cC:=⟨Gd,Ge,Gf⟩}) (d':= { items:=xs,bS:=bS,cC:=cC }) dZ 3 (.slice Gd Ge Gf) rfl { hQ7.at_ with cC:=El.lies.more hsw Tq})
   have hf3:=hQ7.blk.frozen 3;have hc3:=hQ7.blk.cell 3;clear hQ7 d7 hsw zT;unfold nL at*;go_upto_if 42 with fail;clear hf3 hc3;generalize w7.setCell ⟨w.heap.size+1,3,none⟩ (.slice Gd Ge Gf)=W8 at*;refine(afy ⟨#[103,114,111,117,112]⟩ l2 ρ _ IY.ae.did.at_).mono ?_;rintro e w8 ⟨bg,hbg,rfl,d8⟩;have HBG:=aa hbg;have SY:=aa d8;clear hbg d8;go_upto_if 42 with fail;go_cut [] (λ wx=>∃sg,XL ρ w wx l3 { items:=EC,bS:=bS,cC:=⟨Gd,Ge,Gf⟩,group:=sg } { items:=xs,bS:=bS,cC:=cC,group:=group })
   case first=>
    rcases G6.ae with ⟨hg⟩|⟨hk,hb,hc,H⟩
    ·obtain rfl:bg=false:=HBG.ae.trans hg;have HQ9:=aa (IY.ae.EB dZ SY.ae);clear SY hg IY;go_wp2_with fail;go_meet;exact⟨_,HQ9.ae⟩
    ·obtain rfl:bg=true:=HBG.ae.trans hk;have d8:=SY.ae;replace hb:=aa hb;replace hc:=aa hc;have HQ9:=aa ((IY.ae.EB dZ d8).later (ah w8 (.cells (bL [Pl]) 9)));have hw8:=d8.size;have hs8:=IY.ae.did.size;clear d8 SY hk IY;go_wp2_with fail;refine(mj hb.ae ρ _ HQ9.ae.did.at_ w8.heap.size (aB.new _ _ _) Tq).mono ?_;rintro e w9 ⟨rfl,d9⟩;have xP:=aa (HQ9.ae.EB dZ d9);clear d9 HQ9;go_wp2_with fail;refine(Vu hc.ae H ρ _ xP.ae.did.at_).mono ?_;rintro e uv ⟨⟨sgA,Fu,sgc⟩,rfl,hsg,d10⟩;have IZ:=xP.ae.blk.lt;have Cq:=xP.ae.EB dZ d10;have Je:=aa (Cq.set (m':= { items:=EC,bS:=bS,cC:=⟨Gd,Ge,Gf⟩,group:=⟨sgA,Fu,sgc⟩}) (d':= { items:=xs,bS:=bS,cC:=cC,group:=[_] }) dZ 4 (.slice sgA Fu sgc) rfl { Cq.at_ with group:=El.lies.more hsg Tq});have hf4:=Cq.blk.frozen 4;have hc4:=Cq.blk.cell 4;clear Cq d10 hsg xP;unfold nL;go_wp2_with fail;go_meet;exact⟨_,Je.ae⟩
   case rest=>
    obtain⟨sg,hQ⟩:=hcut;have HQ9:=aa hQ;clear hQ IY SY;go_wp2_with fail;refine(Gb (s:=⟨#[104,97,118,105,110,103]⟩) Aa.ae ρ _ HQ9.ae.did.at_).mono ?_;rintro e w11 ⟨⟨Mg,Mh,Mi⟩,rfl,hsh,d11⟩;have aAG:=HQ9.ae.blk.lt;have Cq:=HQ9.ae.EB dZ d11;have Je:=aa (Cq.set (m':= { items:=EC,bS:=bS,cC:=⟨Gd,Ge,Gf⟩,group:=sg,having:=⟨Mg,Mh,Mi⟩}) (d':= { items:=xs,bS:=bS,cC:=cC,group:=group }) dZ 5 (.slice Mg Mh Mi) rfl { Cq.at_ with having:=El.lies.more hsh Tq});have hf5:=Cq.blk.frozen 5;have hc5:=Cq.blk.cell 5;clear Cq d11 hsh HQ9;unfold nL;go_upto_if 53 with fail;clear hf5 hc5;generalize w11.setCell ⟨w.heap.size+1,5,none⟩ (.slice Mg Mh Mi)=W12 at*;refine(afy ⟨#[111,114,100,101,114]⟩ l3 ρ _ Je.ae.did.at_).mono ?_;rintro e w12 ⟨bo,Cr,rfl,d12⟩;have HBO:=aa Cr;have F5:=aa d12;clear Cr d12;go_upto_if 53 with fail;go_cut [] (λ wx=>∃so,XL ρ w wx l4 { items:=EC,bS:=bS,cC:=⟨Gd,Ge,Gf⟩,group:=sg,having:=⟨Mg,Mh,Mi⟩,order:=so } { items:=xs,bS:=bS,cC:=cC,group:=group,order:=order })
    case first=>
     rcases HJ.ae with ⟨hg⟩|⟨hk,hb,hd,hc,H⟩
     ·obtain rfl:bo=false:=HBO.ae.trans hg;have zW:=aa (Je.ae.EB dZ F5.ae);clear F5 hg Je;go_wp2_with fail;go_meet;exact⟨_,zW.ae⟩
     ·obtain rfl:bo=true:=HBO.ae.trans hk;have d12:=F5.ae;replace hb:=aa hb;replace hc:=aa hc;have HOD:=aa (PT hd H);have zW:=aa ((Je.ae.EB dZ d12).later (ah w12 (.cells (bL [Pl]) 9)));have aAJ:=Je.ae.did.size;have aAK:=d12.size;clear d12 F5 hk hd H Je;go_wp2_with fail;refine(mj hb.ae ρ _ zW.ae.did.at_ w12.heap.size (aB.new _ _ _) Tq).mono ?_;rintro e PN ⟨rfl,d13⟩;have F6:=zW.ae.EB dZ d13;have HP:=aa (show PuA sF 117 ρ w PN _ 6 (az) [] _ { items:=EC,bS:=bS,cC:=⟨Gd,Ge,Gf⟩,group:=sg,having:=⟨Mg,Mh,Mi⟩} { items:=xs,bS:=bS,cC:=cC,group:=group } from⟨ku.nil sF _ PN _,F6.did,F6.blk,F6.res,Qu.at_.keep (λ b hb=>⟨λ _=>rfl,hb.1,hb.2,by simp[Value.ownBlock]⟩) F6.at_,rfl⟩);clear F6 d13 zW;go_wp2_with fail;refine PW (E:=sF) (val:=orV) (T:=117) (q:=3) (d0:=57) (d1:=58) (d2:=59) (d3:=60) (d4:=61) (d5:=62) (d6:=63) (F:=180) 24 24 HP.ae dZ Vb Tq (λ w' hw=>HOD.ae ρ w' hw) T8 T8 T8 T8 rfl rfl ?_ ?_ ?_ ?_ ?_ ?_ ?_ Tryz.underlying24 PV rfl WC (λ _=>rfl) (by intro y u hu;replace hu:u∈E8 y:=hu;simp[E8,bF] at hu;rcases hu with rfl | rfl | rfl | rfl | rfl | rfl | rfl | rfl <;> rfl) ?_
      ·exact Zb9
      ·exact Zb9
      ·exact Zdw
      ·exact Zb9
      ·exact Zey
      ·intro ρ' w' y' h';show _=Result.ok _ (w'.alloc (.cells (E8 y').toArray _));simp[go_sem,h',orV,E8,bF]
      ·exact ZfO
      intro y s v' W A4 bU hxf;obtain⟨⟨A,n,c⟩,KK,NP,Mf⟩:=A4.row.sl (B':=w.heap.size+2) (Nat.le_refl _);replace KK:v'=.slice A n c:=KK;replace NP:n=1:=NP;subst KK NP;have acL:=aa (A4.done (m':= { items:=EC,bS:=bS,cC:=⟨Gd,Ge,Gf⟩,group:=sg,having:=⟨Mg,Mh,Mi⟩,order:=⟨A,1,c⟩}) (d':= { items:=xs,bS:=bS,cC:=cC,group:=group,order:=[_] }) rfl { Qu.at_.keep (Mb (Nat.le_refl _)) A4.at_ with order:=Mf });clear A4 Mf HP HOD;simp only[Act.put,Uac];go_wp2_with fail;clear hxf bU;generalize atN:W.setCell ⟨w.heap.size+1,6,none⟩ (.slice A 1 c)=W16 at*;clear atN;go_loopg [] 0 (λ k wr=>wr=W16);case atStart=>exact rfl
      case round=>subst hrel;have x6:=acL.ae.blk.cell 6;unfold LV nL at x6;simp only[Uaa] at x6;go_wp2_with fail;refine(Jd hc.ae 1 Tq ρ _ acL.ae.did.at_).mono ?_;rintro e w17 ⟨rfl,d17⟩;have atO:=aa (acL.ae.EB dZ d17);clear d17 acL;go_wp2_with fail;go_meet;exact⟨_,atO.ae⟩
    case rest=>
     obtain⟨so,hQ⟩:=hcut;have zW:=aa hQ;clear hQ Je F5;go_wp2_with fail;rcases GX.ae with ⟨hg⟩|⟨hk,hn⟩
     ·refine(cj ρ _ _ _ zW.ae.did.at_ ⟨#[108,105,109,105,116]⟩ hg).mono ?_;rintro e Ta ⟨rfl,d14⟩;have HS:=aa (zW.ae.EB dZ d14);clear d14 hg zW;open zhI in exact ZfT
     ·refine(nZ ρ _ _ _ zW.ae.did.at_ ⟨#[108,105,109,105,116]⟩ hk).mono ?_;rintro e PN ⟨rfl,d13⟩;have acM:=aa (zW.ae.EB dZ d13);replace hn:=aa hn;clear d13 hk zW;go_wp2_with fail;refine(LO hn.ae ρ _ acM.ae.did.at_).mono ?_;rintro e Ta ⟨k,hk,hk0,Ec,rfl,d14⟩;replace hk:=aa hk;have b15:=ah Ta (.cells #[af k] 2);have F7:=(acM.ae.EB dZ d14).later b15;have amP:=(acM.ae.EB dZ d14).blk.lt;have hf7:=F7.blk.frozen 7;have hc7:=F7.blk.cell 7;have HS:=aa (F7.set (m':= { items:=EC,bS:=bS,cC:=⟨Gd,Ge,Gf⟩,group:=sg,having:=⟨Mg,Mh,Mi⟩,order:=so,dx:=⟨some ⟨Ta.heap.size,0,none⟩,1,1⟩}) (d':= { items:=xs,bS:=bS,cC:=cC,group:=group,order:=order,dx:=[k] }) dZ 7 (aI Ta.heap.size 1 1) rfl { F7.at_ with dx:=acJ (aB.new Ta _ _) ⟨by omega,by simp⟩});clear F7 d14 b15 amP acM;open zhJ in exact ZfT
  ·obtain⟨x9,ys9,c9,l9,rfl,H9,ha9,hm9⟩:=hit.first
   refine(Calls.mono (P:=Tryz.prog) (by rw[HN.ae];exact F2 hc acc.length UU.ae ρ wr HE.ae.at_.did.at_) ?_);rintro e w8 ⟨rfl,d8⟩;have HI9:=aa (Cp ha9 H9);have HM9:=aa hm9;have HA8:=aa (HE.ae.at_.EB dZ d8);clear d8 hc hit H9 ha9 hm9;go_wp2_with fail;refine PW (E:=rb) (val:=itV) (T:=48) (q:=3) (d0:=22) (d1:=23) (d2:=24) (d3:=25) (d4:=26) (d5:=27) (d6:=28) (F:=178) 22 22 HA8.ae dZ UU.ae Tq (λ w' hw=>HI9.ae ρ w' hw) T8 T8 T8 T8 rfl rfl ?_ ?_ ?_ ?_ ?_ ?_ ?_ Tryz.underlying22 Gc rfl WC (λ _=>rfl) (by intro y u hu;replace hu:u∈Tb y:=hu;simp[Tb,bF] at hu;rcases hu with rfl | rfl | rfl | rfl | rfl | rfl | rfl | rfl <;> rfl) ?_
   ·exact Zb9
   ·exact Zb9
   ·exact Zdw
   ·exact Zb9
   ·exact Zey
   ·exact ZfQ
   ·exact ZfO
   intro y s v' W A4 bU hxf;obtain⟨⟨A9,n9,c10⟩,KK,NP,_⟩:=A4.row.sl (B':=w.heap.size) Tq;replace KK:v'=.slice A9 n9 c10:=KK;subst KK;have HI9:=aa (show ItC ρ w xs (kf::nm::l1) ys9.length (W.setCell ⟨w.heap.size+1,0,none⟩ (.slice A9 n9 c10)) A9 n9 c10 (acc++ [(x9,ByteArray.empty)]) ys9 (c9::l9)from⟨A4,HM9.ae,by rw[append_assoc];exact HE.ae.aO,NP,Nat.le_refl _⟩);clear A4 NP;simp only[Act.put,Uac];go_wp2_with fail;go_roundg ys9.length;case measure=>have:=HE.ae.le;rw[length_cons] at this;omega
   case rel=>exact⟨_,_,_,_,_,_,HI9.ae⟩):p:=h
theorem AD(hF:iY fj k0=true)(ih:dJ xG l=false)(hit:uy l xs (kf::nm::l1))(q1:xs.length<=64)(q2:iY xF kf=true)(q3:iY ahp nm=false)(q4:nm.k=1)(q5:tu nm.s=false)(Az:acK IG l1 cC l2)(TG:ahP l2 group l3)(D9:dJ ZB l3=false)(hz:ahQ l3 order l4)(ND:ahR l4 lim r)(ρ:dv)(w:World)(h:ρ.at w (.good (k0::l)) false):
  ar 134 #[ρ.ptr] w λ e w'=>∃y:xR,e=.returned (quV y)/\Qu.at_ w' (jo w.heap.size w') { items:=xs,bS:=⟨nm.s.toArray⟩,cC:=cC,group:=group,order:=order,dx:=lim } y/\eE ρ w w' (.good r) false:=by
 have dZ:=h.FW;obtain⟨x0,ys0,c0,l0,rfl,H0,ha0,NK⟩:=hit.first
 open zcO in exact Zbd
end Go.Proofs.YtndgjggokjickaaGreatDoor.R
namespace Go.Proofs.YtndgjggokjickaaGreatDoor
set_option maxHeartbeats 90000000
set_option maxRecDepth 100000
open Go.ChangeShapes Go.WideShapes Go.ChangeAt Go.RowKit List
set_option linter.unusedVariables false
set_option linter.unusedSimpArgs false
theorem uj (y:Ex):(bF y).length=7:=rfl
theorem PZ (b o j:Nat):(Addr.add ⟨b,o,none⟩ j)=⟨b,o+j,none⟩:=by unfold Addr.add;split <;> simp_all
variable{α:Type}{f:α->List Value}
theorem Cs{size:Nat}(hf:∀x,(f x).length=size)(h0:0 < size):∀(l:List α) (j:Nat) (u:Value),(l.flatMap f)[j]?=some u->∃k r x,j=k*size+r/\r < size/\l[k]?=some x/\(f x)[r]?=some u
 | [],j,u,h=>by simp at h
 | y::l,j,u,h=>by
   rw[flatMap_cons] at h;by_cases hj:j < size
   ·rw[getElem?_append_left (by rw[hf];exact hj)] at h;exact⟨0,j,y,by omega,hj,rfl,h⟩
   ·rw[getElem?_append_right (by rw[hf];omega),hf] at h;obtain⟨k,r,x,h1,hr,h2,h3⟩:=Cs hf h0 l _ u h;exact⟨k+1,r,x,by rw[Nat.succ_mul];omega,hr,by simpa using h2,h3⟩
theorem afz:∀ys:List Ex,(ys.flatMap bF).length=ys.length*7
 | []=>rfl
 | y::ys=>by rw[flatMap_cons,length_append,afz ys,uj,length_cons];omega
variable{w:World}{b r:Nat}{x:Ex}{u:Value}
theorem acN{off:Nat}  (h:ck w b off x)(hr:r < 7)(hu:(bF x)[r]?=some u):w.cell? ⟨b,off+r,none⟩=some u:=by
 unfold ck at h;obtain⟨c0,c1,c2,c3,c4,c5,c6⟩:=h;unfold bF at hu
 match r,hr with
 | 0,_=>rw[<- hu];exact c0
 | 1,_=>rw[<- hu];exact c1
 | 2,_=>rw[<- hu];exact c2
 | 3,_=>rw[<- hu];exact c3
 | 4,_=>rw[<- hu];exact c4
 | 5,_=>rw[<- hu];exact c5
 | 6,_=>rw[<- hu];exact c6
variable{B:Nat}
theorem RE.reads{A:Option Addr} {ys:List Ex}(h:RE w B A ys):Reads w B 7 A ys.length (ys.flatMap bF):=by
 refine⟨afz ys,λ hn=>?_⟩;rcases h with h |⟨b,off,hA,hb,hc⟩
 ·subst h;simp at hn
 ·refine⟨⟨b,off,none⟩,hA,hb,λ j u hu=>?_⟩;obtain⟨k,r,x,rfl,hr,h2,h3⟩:=Cs uj Tq ys j u hu;rw[PZ,<- Nat.add_assoc];exact acN (hc k x h2) hr h3
theorem Qa:∀(ys:List Ex),∀u∈ys.flatMap bF,u.oneCell'=true:=by
 intro ys u hu;obtain⟨y,_,hu⟩:=List.mem_flatMap.1 hu;simp[bF] at hu;rcases hu with rfl | rfl | rfl | rfl | rfl | rfl | rfl <;> rfl
structure tP where
 A:Option Addr
 c:Nat
 ys:List Ex
def RL (w:World)(B:Nat)(P:Option Addr)(l:List tP):Prop:=∃b off,P=some ⟨b,off,none⟩/\b < B/\∀i x,l[i]?=some x->w.cell? ⟨b,off+i,none⟩=some (.slice x.A x.ys.length x.c)/\RE w B x.A x.ys
variable{w':World}{P:Option Addr}{l:List tP}
theorem RL.later(h:RL w w.heap.size P l)(hb:aj w w'):RL w' w'.heap.size P l:=by obtain⟨b,off,h1,h2,h3⟩:=h;exact⟨b,off,h1,Nat.lt_of_lt_of_le h2 hb.size,λ i x hx=>⟨(hb.cell (p:=⟨b,off+i,none⟩) h2).trans (h3 i x hx).1,(h3 i x hx).2.later hb⟩⟩
def lC (l:List tP):Nat:=(l.map λ x=>x.ys.length).sum
theorem Gg (l:List tP)(x:tP):lC (l++ [x])=lC l+x.ys.length:=by simp[lC]
theorem Gh (l:List tP)(k:Nat):lC (l.take k)<=lC l:=by
 have:lC l=lC (l.take k)+lC (l.drop k):=by unfold lC;rw[<- sum_append_nat,<- map_append,take_append_drop]
 omega
theorem uz (P:Option Addr)(c:Nat)(l:List tP)(w:World)(hn:l.length<=1000)(hl:lC l<=1000000)(Kx:RL w w.heap.size P l):
  ar 35 #[.slice P l.length c] w λ e w'=>∃v,e=.returned v/\aH bF 46 7 w' w.heap.size v (l.flatMap tP.ys)/\aj w w':=by
 have HR:=aa Kx;have zP:=aa hl;clear Kx hl;go_enter Tryz.func35,Tryz.ntmps35;go_wp2_with fail;go_loop [3,11] (λ s i=>∃k:Nat,k<=l.length/\i=af k/\s=af (lC (l.take k):Nat)) (λ _ i=>l.length - (intOf i).toNat);case atStart=>exact⟨0,Nat.zero_le _,rfl,rfl⟩
 case round=>
  obtain⟨k,hk,rfl,rfl⟩:=hrel;by_cases hlt:k < l.length
  ·obtain⟨b,off,rfl,hb,hc⟩:=id HR.ae;have hx:=(hc k l[k] (getElem?_eq_getElem hlt)).1;have oY:=aa (show lC (l.take (k+1))=lC (l.take k)+l[k].ys.length by rw[take_add_one,getElem?_eq_getElem hlt];exact Gg _ _);have h1:=Gh l (k+1);have h2:=oY.ae;have h3:=zP.ae;generalize l[k]=x at*;have h4:lC (l.take k)+x.ys.length<=1000000:=by omega
   generalize lC (l.take k)=s0 at*;have t1:decide ((s0:Int)+(x.ys.length:Int)< 0)=false:=decide_eq_false Tq;clear hc h1 h2 h3;go_wp2_with fail;go_round;case rel=>exact⟨k+1,hlt,by go_num,by rw[oY.ae];simp⟩
   case measure=>exact Za2
  ·have fJ:k=l.length:=by omega
   subst fJ;have lT:lC (l.take l.length)=lC l:=by rw[take_length]
   rw[lT];have hgr:=Zx (lC l) zP.ae w;have xT:=aa hgr;clear hgr lT hlt hk;go_wp2_with fail;refine xT.ae.mono ?_;rintro e w1 ⟨v1,rfl,hR,WO⟩;have xU:=aa hR;have GZ:=aa WO;clear hR WO xT;go_wp2_with fail;go_loopw [6,27] (λ v i wr=>∃k:Nat,k<=l.length/\i=af k/\aH bF 46 7 wr w.heap.size v ((l.take k).flatMap tP.ys)/\aj w wr) (λ _ i _=>l.length - (intOf i).toNat);case atStart=>exact⟨0,Nat.zero_le _,rfl,xU.ae,GZ.ae⟩
   case round=>
    clear xU GZ;obtain⟨k,hk,rfl,hp,hb⟩:=hrel;have HP:=aa hp;clear hp;by_cases hlt:k < l.length
    ·have hRL:=HR.ae.later hb;obtain⟨b,off,rfl,kG,hc⟩:=hRL;have hx:=hc k l[k] (getElem?_eq_getElem hlt);have oY:=aa (show(l.take (k+1)).flatMap tP.ys=(l.take k).flatMap tP.ys++l[k].ys by rw[take_add_one,getElem?_eq_getElem hlt,flatMap_append];simp)
     have hle:((l.take k).flatMap tP.ys).length+l[k].ys.length<=1000000:=by
      have h1:=Gh l (k+1);have h2:lC (l.take (k+1))=lC (l.take k)+l[k].ys.length:=by rw[take_add_one,getElem?_eq_getElem hlt];exact Gg _ _
      have h3:=zP.ae;have h4:((l.take k).flatMap tP.ys).length=lC (l.take k):=by rw[length_flatMap];rfl
      omega
     generalize l[k]=x at*;generalize (l.take k).flatMap tP.ys=ys at*;obtain⟨hx1,hx2⟩:=hx;have rC:=aa hx2.reads;have hbase:=hb.size;clear hc hx2;obtain⟨i0,kX,hg4,oB,HZ⟩:=info_parts fL;have HI:=aa kX;have Kg:=aa hg4;have HX:=aa oB;have uX:=aa HZ;clear kX hg4 oB HZ;go_wp2_with (first
      |(at_builtin
        refine cN wr rfl (.tmp 31) (.tmp 32) 23 rfl w.heap.size 46 i0 _ 7 88 Tryz.underlying23 HI.ae Kg.ae HX.ae uX.ae rfl Tq _ ys.length (ys.flatMap bF) rfl HP.ae wr.heap.size x.A x.ys.length x.c (x.ys.flatMap bF) rfl rC.ae (Qa _) Taj Tq hbase ?_
        intro v4 w4 o4 g4 _
        have b4:=bj HP.ae g4 hbase
        have O4:=aa o4
        clear o4 g4 HP))
     go_roundw;case rel=>refine⟨k+1,hlt,by go_num,?_,hb.trans b4⟩;rw[oY.ae];unfold aH;rw[length_append,flatMap_append];exact O4.ae
     case measure=>exact Za2
    ·have fJ:k=l.length:=by omega
     subst fJ;rw[take_length] at HP;go_wp2_with fail;go_ret;exact⟨_,rfl,HP.ae,hb⟩
end Go.Proofs.YtndgjggokjickaaGreatDoor
namespace Go.Proofs.YtndgjggokjickaaGreatDoor.R
set_option maxHeartbeats 90000000
set_option maxRecDepth 100000
open Go.ChangeShapes Go.WideShapes Go.ChangeAt Go.RowKit List
set_option linter.unusedVariables false
set_option linter.unusedSimpArgs false
theorem sN (m:E5):(sM m).toArray.size=28:=rfl
theorem Qb (m:E5):(sM m).toArray.all (·.oneCell')=true:=by simp[sM,LV,E6,nL,Value.oneCell']
theorem pA:(Tryz.prog.info? 64).map (·.size)=some 28:=by exact Zgu
section
variable {w wr wr':World} {S:Nat->Prop} {v v':Value} {acc l:List Tr} {B:Nat}
end
section
variable {P:Program} {J:List Value->World->Prop} {w0:World} {Q:Exit->Act->World->Prop} {a0:Act} {id:Nat} {o0 o1 o2 o3 o4 o5 o6 o7 o8 o9 qp:Oper} {q s d0 d1 d2 d3 d4 d5 d6 d7 d8 d9:Tmp} {pq v0 p1 p2 p3 s1 s2 s3:Value} {A1 A2 A3:Addr}
end
end Go.Proofs.YtndgjggokjickaaGreatDoor.R
namespace Go.Proofs.YtndgjggokjickaaGreatDoor
open List
set_option maxHeartbeats 90000000
set_option maxRecDepth 100000
open Go.RowKit
set_option linter.unusedVariables false
def F8 (o0 o1 o2 o3 o4 o5 o6 o7 o8 o9:Oper)(q s d0 d1 d2 d3 d4 d5 d6 d7 d8 d9:Tmp):Bool:=
 (tmpsOf o0== [s])&&(cW [o0,o1,o2,o3,o4,o5,o6,o7,o8,o9] o0 s==none)&&(tmpsOf o1== [q])&&(cW [o0,o1,o2,o3,o4,o5,o6,o7,o8,o9] o1 q==none)&&(tmpsOf o2== [d1])&&(cW [o0,o1,o2,o3,o4,o5,o6,o7,o8,o9] o2 d1==some 1)&&(tmpsOf o3== [d0,d2])&&(cW [o0,o1,o2,o3,o4,o5,o6,o7,o8,o9] o3 d0==some 0)&&(cW [o0,o1,o2,o3,o4,o5,o6,o7,o8,o9] o3 d2==some 2)&&(tmpsOf o4== [q])&&(cW [o0,o1,o2,o3,o4,o5,o6,o7,o8,o9] o4 q==none)&&(tmpsOf o5== [d4])&&(cW [o0,o1,o2,o3,o4,o5,o6,o7,o8,o9] o5 d4==some 4)&&(tmpsOf o6== [d3,d5])&&(cW [o0,o1,o2,o3,o4,o5,o6,o7,o8,o9] o6 d3==some 3)&&(cW [o0,o1,o2,o3,o4,o5,o6,o7,o8,o9] o6 d5==some 5)&&(tmpsOf o7== [q])&&(cW [o0,o1,o2,o3,o4,o5,o6,o7,o8,o9] o7 q==none)&&(tmpsOf o8== [d7])&&(cW [o0,o1,o2,o3,o4,o5,o6,o7,o8,o9] o8 d7==some 7)&&(tmpsOf o9== [d6,d8])&&(cW [o0,o1,o2,o3,o4,o5,o6,o7,o8,o9] o9 d6==some 6)&&(cW [o0,o1,o2,o3,o4,o5,o6,o7,o8,o9] o9 d8==some 8)&&(o0.dst==some d0)&&(o1.dst==some d1)&&(o2.dst==some d2)&&(o3.dst==some d3)&&(o4.dst==some d4)&&(o5.dst==some d5)&&(o6.dst==some d6)&&(o7.dst==some d7)&&(o8.dst==some d8)&&(o9.dst==some d9)&& o0.guard.isNone && o1.guard.isNone && o2.guard.isNone && o3.guard.isNone && o4.guard.isNone && o5.guard.isNone && o6.guard.isNone && o7.guard.isNone && o8.guard.isNone && o9.guard.isNone
section
variable {P:Program} {J:List Value->World->Prop} {w0:World} {Q:Exit->Act->World->Prop} {a0:Act} {id:Nat} {o0 o1 o2 o3 o4 o5 o6 o7 o8 o9 qp:Oper} {q s d0 d1 d2 d3 d4 d5 d6 d7 d8 d9:Tmp} {pq v0 p1 p2 p3 s1 s2 s3:Value} {A1 A2 A3:Addr}
theorem Mj (t:TypeId)
  (nO:∀vs w,J vs w->J vs w.drew) (hJ:J [] w0)
  (hm:P.follows .mixedOrders=true) (aZ:dO [o0,o1,o2,o3,o4,o5,o6,o7,o8,o9] a0.tmps.size [o0,o1,o2,o3,o4,o5,o6,o7,o8,o9] 0=true) (hz:eJ ([o0,o1,o2,o3,o4,o5,o6,o7,o8,o9]++ [qp]) [qp] 10=true) (hch:lr [o0,o1,o2,o3,o4,o5,o6,o7,o8,o9] [3,6,9]=true) (Cj:F8 o0 o1 o2 o3 o4 o5 o6 o7 o8 o9 q s d0 d1 d2 d3 d4 d5 d6 d7 d8 d9=true)
  (hq:a0.eval (.tmp q)=pq) (h0:a0.eval (.tmp s)=v0)
  (Ew:∀ρ w,ρ (.tmp s)=v0->(execOp ρ o0).run P w=.ok (.value v0) w)
  (hfa:∀ρ w,ρ (.tmp q)=pq->(execOp ρ o1).run P w=.ok (.value p1) w) (C3:∀ρ w,ρ (.tmp q)=pq->(execOp ρ o4).run P w=.ok (.value p2) w) (hf3:∀ρ w,ρ (.tmp q)=pq->(execOp ρ o7).run P w=.ok (.value p3) w)
  (LT:∀vs w,J vs w->w.cell? A1=some s1/\w.cell? A2=some s2/\w.cell? A3=some s3)
  (fq:∀ρ w,ρ (.tmp d1)=p1->w.cell? A1=some s1->(execOp ρ o2).run P w=.ok (.value s1) w) (hl2:∀ρ w,ρ (.tmp d4)=p2->w.cell? A2=some s2->(execOp ρ o5).run P w=.ok (.value s2) w) (ub:∀ρ w,ρ (.tmp d7)=p3->w.cell? A3=some s3->(execOp ρ o8).run P w=.ok (.value s3) w)
  (atT:∀ρ w v x v' w',ρ (.tmp d0)=v->ρ (.tmp d2)=x->(Builtin.append_ #[t,t] t #[v,x]).run P w=.ok v' w'->(execOp ρ o3).run P w=.ok (.value v') w')
  (atU:∀ρ w v x v' w',ρ (.tmp d3)=v->ρ (.tmp d5)=x->(Builtin.append_ #[t,t] t #[v,x]).run P w=.ok v' w'->(execOp ρ o6).run P w=.ok (.value v') w')
  (atV:∀ρ w v x v' w',ρ (.tmp d6)=v->ρ (.tmp d8)=x->(Builtin.append_ #[t,t] t #[v,x]).run P w=.ok v' w'->(execOp ρ o9).run P w=.ok (.value v') w')
  (ha1:∀w,J [] w->∃v' w',(Builtin.append_ #[t,t] t #[v0,s1]).run P w=.ok v' w'/\J [v'] w')
  (ha2:∀a w,J [a] w->∃v' w',(Builtin.append_ #[t,t] t #[a,s2]).run P w=.ok v' w'/\J [a,v'] w')
  (ha3:∀a b w,J [a,b] w->∃v' w',(Builtin.append_ #[t,t] t #[b,s3]).run P w=.ok v' w'/\J [a,b,v'] w')
  (mg:∀a b c W,J [a,b,c] W->wpList P [o0,o1,o2,o3,o4,o5,o6,o7,o8,o9,qp].toArray Q [qp] ((((((((((a0.put (some d0) v0).put (some d1) p1).put (some d2) s1).put (some d3) a).put (some d4) p2).put (some d5) s2).put (some d6) b).put (some d7) p3).put (some d8) s3).put (some d9) c) W):
  (Code.region id [o0,o1,o2,o3,o4,o5,o6,o7,o8,o9,qp].toArray true).wp P Q a0 w0:=by
 simp only[F8,Bool.and_eq_true,beq_iff_eq,Option.isNone_iff_eq_none] at Cj;obtain⟨⟨⟨⟨⟨⟨⟨⟨⟨⟨⟨⟨⟨⟨⟨⟨⟨⟨⟨⟨⟨⟨⟨⟨⟨⟨⟨⟨⟨⟨⟨⟨⟨⟨⟨⟨⟨⟨⟨⟨⟨⟨t2,m0⟩,t0⟩,s0⟩,t1⟩,m2⟩,t3⟩,m3⟩,m3'⟩,t6⟩,s6⟩,t4⟩,s4⟩,Kx⟩,m6⟩,m6'⟩,t7⟩,m7⟩,t8⟩,m8⟩,t9⟩,m9⟩,s5'⟩,e0⟩,e1⟩,e2⟩,e3⟩,e4⟩,e5⟩,e6⟩,e7⟩,e8⟩,e9⟩,g2⟩,g0⟩,KK⟩,g3⟩,g6⟩,LE⟩,g4⟩,g7⟩,g8⟩,g5⟩:=Cj;refine oV [qp] [o0,o1,o2,o3,o4,o5,o6,o7,o8,o9] rfl (λ i=>if i=0 then v0 else if i=1 then p1 else if i=2 then s1 else if i=4 then p2 else if i=5 then s2 else if i=7 then p3 else s3) [3,6,9] J nO hJ hm aZ hz hch WC rfl ?_ ?_
 ·refine⟨Zdn,Zdk,?_,?_,Zdo,?_,?_,?_,?_,?_,trivial⟩
  ·intro ρ w vs hc hG hr;rw[t1] at hr;have r0:=hr.1;simp only[m2] at r0;exact⟨KK,fq ρ w r0 (LT _ _ hG).1⟩
  ·intro ρ w vs hc hG hr;rw[t3] at hr;have r0:=hr.1;simp only[m3] at r0;have r1:=hr.2.1;simp only[m3'] at r1;refine⟨g3,?_⟩;show vs.length=0->_;intro hl;obtain rfl:=eq_nil_of_length_eq_zero hl;obtain⟨v',w',hrun,hj⟩:=ha1 w hG;exact aq (atT ρ w _ _ v' w' r0 r1 hrun) hj
  ·intro ρ w vs hc hG hr;rw[t4] at hr;have r0:=hr.1;simp only[s4] at r0;exact⟨LE,hl2 ρ w r0 (LT _ _ hG).2.1⟩
  ·intro ρ w vs hc hG hr;rw[Kx] at hr;have r0:=hr.1;simp only[m6] at r0;have r1:=hr.2.1;simp only[m6'] at r1;refine⟨g4,?_⟩;show vs.length=1->_;intro hl
   match vs,hl with
   | [a],_=>have r0:some a=some (ρ (.tmp d3)):=r0;injection r0 with r0;obtain⟨v',w',hrun,hj⟩:=ha2 a w hG;exact aq (atU ρ w _ _ v' w' r0.symm r1 hrun) hj
  ·intro ρ w vs hc hG hr;rw[t7] at hr;have r0:=hr.1;simp only[m7] at r0;exact⟨g7,hf3 ρ w (r0.trans hq)⟩
  ·intro ρ w vs hc hG hr;rw[t8] at hr;have r0:=hr.1;simp only[m8] at r0;exact⟨g8,ub ρ w r0 (LT _ _ hG).2.2⟩
  ·intro ρ w vs hc hG hr;rw[t9] at hr;have r0:=hr.1;simp only[m9] at r0;have r1:=hr.2.1;simp only[s5'] at r1;refine⟨g5,?_⟩;show vs.length=2->_;intro hl
   match vs,hl with
   | [a,b],_=>have r0:some b=some (ρ (.tmp d6)):=r0;injection r0 with r0;obtain⟨v',w',hrun,hj⟩:=ha3 a b w hG;exact aq (atV ρ w _ _ v' w' r0.symm r1 hrun) hj
 ·intro vs w hl hG
  match vs,hl with
  | [a,b,c],_=>simp only[bD,e0,e1,e2,e3,e4,e5,e6,e7,e8,e9];intro a0' z0 a1 z1 a2 z2 a3 z3 a4 Lw a5 Ly a6 z4 a7 z7 a8 z8 a9 z5;have z0:a0'=v0:=z0;have z1:a1=p1:=z1;have z2:a2=s1:=z2;have z3:some a=some a3:=z3;have Lw:a4=p2:=Lw;have Ly:a5=s2:=Ly;have z4:some b=some a6:=z4;have z7:a7=p3:=z7;have z8:a8=s3:=z8;have z5:some c=some a9:=z5;injection z3 with z3;injection z4 with z4;injection z5 with z5;rw[z0,z1,z2,<- z3,Lw,Ly,<- z4,z7,z8,<- z5];exact mg a b c w hG
end
end Go.Proofs.YtndgjggokjickaaGreatDoor
namespace Go.Proofs.YtndgjggokjickaaGreatDoor.R
set_option maxHeartbeats 90000000
set_option maxRecDepth 100000
open Go.ChangeShapes Go.WideShapes Go.ChangeAt Go.RowKit List
set_option linter.unusedVariables false
set_option linter.unusedSimpArgs false
def st0:Array Value:=(sM {}).toArray
section
variable {ρ:dv} {w wr w2:World} {big:Bool} {P:Ps St} {σ yX:cg} {q b:Nat} {m:E5} {d:St}
end
section
variable {ρ:dv} {w wr w2:World} {big:Bool} {P:Ps St} {σ yX:cg} {q b:Nat} {m:E5} {d:St}
end
theorem Gi (w:World)(q:Nat)(cs:Array Value):w.grownBy (w.setRow q cs) (some q):=
 ⟨rfl,rfl,rfl,by simp,λ i hi hne=>setRow_other w q i cs (λ e=>hne Ta9)⟩
variable{B q:Nat}
theorem Tg(w:World)(hq:q < B)(cs:Array Value):∀b,jo B w b->(∀o,(w.setRow q cs).cell? ⟨b,o,none⟩=w.cell? ⟨b,o,none⟩)/\jo B (w.setRow q cs) b:=λ b hb=>
 ⟨cell_of_heap (setRow_other w q b cs (by have:=hb.1;omega)),hb.1,by rw[size_setRow];exact hb.2⟩
variable{w:World}{T:TypeId}{old:Array Value}
theorem _root_.Go.Proofs.YtndgjggokjickaaGreatDoor.aB.row(h:aB w q T old)(cs:Array Value):aB (w.setRow q cs) q T cs:=setRow_heap w q old cs T (0,0) h
variable{b:Nat}
theorem _root_.Go.Proofs.YtndgjggokjickaaGreatDoor.aB.acO(h:aB w b T old)(hq:b≠q)(cs:Array Value):aB (w.setRow q cs) b T old:=(setRow_other w q b cs hq).trans h
variable{P:Program}{fn:Func}{u v:Tmp}{ty:TypeId}
theorem Jf{p:Tmp} (h:fn.results= #[.cell p ty,.tmp u,.tmp v])(tmps:Array Value)(w:World)(g:Nat)(t:TypeId)(cs:Array Value)(fr:Nat×Nat)(d:TypeDesc)(x y:Value)
  (hp:tmps.getD p undef=aw g) (hg:w.heap[g]?=some (.cells cs t fr))
  (hu:P.underlying ty=some d) (hd:(match d with | .struct _ | .array _ _=>true | _=>false)=true) (hi:(P.info? ty).map (·.size)=some cs.size) (hx:tmps.getD u undef=x) (hy:tmps.getD v undef=y):
  (results fn tmps).run P w=.ok (.tuple #[.agg cs,x,y]) w:=by
 have hp':tmps[p]?.getD undef=aw g:=by simpa using hp
 have hx':tmps[u]?.getD undef=x:=by simpa using hx
 have hy':tmps[v]?.getD undef=y:=by simpa using hy
 simp[results,h,hp',hx',hy',asAddr,Sem.run_bind,run_loadVar_row w g t ty cs fr d hg hu hd hi,Result.andThen]
variable{ρ:dv}{W:World}{σ:cg}{big:Bool}
theorem eE.row(h:eE ρ W w σ big)(hW:ρ.g < W.heap.size)(hq:W.heap.size<=q)(cs:Array Value):eE ρ W (w.setRow q cs) σ big:=
 h.own hW (Gi w q cs) (λ G e=>by injection e with e;omega)
variable{gl:Nat}{l:List qX}
theorem dv.start{c:Nat} (zX:gl < w.heap.size)(hc:∀k t,l[k]?=some t->w.cell? ⟨gl,k*4,none⟩=some (ag t.w.k)/\w.cell? ⟨gl,k*4+1,none⟩=some (.string ⟨t.w.s.toArray⟩)/\w.cell? ⟨gl,k*4+2,none⟩=some (af t.w.n)/\w.cell? ⟨gl,k*4+3,none⟩=some (af t.p))
  (he:yS (l.map (·.w))) (hlen:l.length<=4097) (hwd:∀t∈l,acH t.w):
  (⟨w.heap.size,gl,c,l⟩:dv).at (w.alloc (.cells #[aI gl l.length c,af 0,af (-1),.bool false] 169)) (.good (l.map (·.w))) false:=by
 have hb:=aB.new w 169 #[aI gl l.length c,af 0,af (-1),.bool false];refine⟨?_,zX,?_,⟨suffix_refl _,he⟩,?_,λ t ht=>(hwd t ht).1⟩
 ·have e:(⟨w.heap.size,gl,c,l⟩:dv).cells (.good (l.map (·.w))) false= #[aI gl l.length c,af 0,af (-1),.bool false]:=by simp[dv.cells,dv.n,dv.bad,cg.left]
  rw[e];exact hb
 ·intro k t hk;have c:=λ o=>World.cell?_alloc_lt w (.cells #[aI gl l.length c,af 0,af (-1),.bool false] 169) ⟨gl,o,none⟩ zX
  obtain⟨h1,h2,h3,h4⟩:=hc k t hk;exact⟨(c _).trans h1,(c _).trans h2,(c _).trans h3,(c _).trans h4⟩
 ·show l.length<=5000;omega
theorem Mk(w:World)(o:Obj)(cs:Array Value):∀b,jo B w b->(∀i,((w.alloc o).setRow w.heap.size cs).cell? ⟨b,i,none⟩=w.cell? ⟨b,i,none⟩)/\jo B ((w.alloc o).setRow w.heap.size cs) b:=λ b hb=>
 ⟨cell_of_heap ((setRow_other _ w.heap.size b cs (by have:=hb.2;omega)).trans (Below.heap_alloc w o b hb.2)),hb.1,by rw[size_setRow];have:=hb.2;simp;omega⟩
section
variable {t:Wd} {r:dI}
end
section
variable {α:Type} {E:El α} {T:TypeId} {lng:α->Bool} {el:Ps α} {ρ:dv} {w wr w8:World} {big bg:Bool} {P:Ps St} {σ0 σ yX:cg} {q b i k:Nat} {m:E5} {d:St} {w1 gG w2 W:World} {y:E.β} {v v':Value} {acc:List α} {cs:Array Value}
end
end Go.Proofs.YtndgjggokjickaaGreatDoor.R
namespace Go.Proofs.YtndgjggokjickaaGreatDoor
variable{p:Prop}
set_option maxHeartbeats 90000000
set_option maxRecDepth 100000
open Go.ChangeShapes Go.WideShapes Go.ChangeAt Go.RowKit List
set_option linter.unusedVariables false
set_option linter.unusedSimpArgs false
def Gj (v:R.Val):Val:=⟨v.k,v.n,v.s⟩
mutual
def pY:R.Tr->Tr
 | .mk op v name width args=> .mk op (Gj v) name width (gL args)
def gL:List R.Tr->List Tr
 | []=> []
 | t::ts=>pY t::gL ts
end
def ED (y:R.Ex):Ex:=⟨y.op,Gj y.v,y.name,y.width,y.A,y.n,y.c⟩
theorem lD:∀ts:List R.Tr,(gL ts).length=ts.length
 | []=>by simp[gL]
 | t::ts=>by simp[gL,lD ts]
variable{w:World}{S:Nat->Prop}
theorem afA{A:Option Addr} {ys:List R.Ex}(h:R.RL R.bF 7 w S A ys):Yw w S A (ys.map ED):=by
 rcases h with rfl |⟨b,off,Kx,h2,h3⟩
 ·exact .inl rfl
 ·refine .inr ⟨b,off,Kx,h2,λ i x h1=>?_⟩;rw[getElem?_map] at h1
  cases hy:ys[i]? with
  | none=>rw[hy] at h1;cases h1
  | some y=>rw[hy] at h1;injection h1 with h1;subst h1;have k:=h3 i y;exact⟨k 0 _ hy rfl,k 1 _ hy rfl,k 2 _ hy rfl,k 3 _ hy rfl,k 4 _ hy rfl,k 5 _ hy rfl,k 6 _ hy rfl⟩
mutual
theorem Th {w:World} {S:Nat->Prop}:∀(t:R.Tr) (y:R.Ex),t.at_ w S y->(pY t).at_ w S (ED y)
 | .mk op v name width args,y,h=>by unfold R.Tr.at_ at h;obtain⟨h1,h2,h3,h4,h5,ys,h6,h7⟩:=h;unfold pY Tr.at_;exact⟨h1,by rw[<- h2];rfl,h3,h4,by rw[lD];exact h5,ys.map ED,afA h6,xV args ys h7⟩
theorem xV {w:World} {S:Nat->Prop}:∀(ts:List R.Tr) (ys:List R.Ex),R.Tr.aO w S ts ys->Tr.aO w S (gL ts) (ys.map ED)
 | [],ys,h=>by unfold R.Tr.aO at h;subst h;unfold gL Tr.aO;rfl
 | t::ts,ys,h=>by unfold R.Tr.aO at h;obtain⟨y,ys',rfl,h1,h2⟩:=h;unfold gL Tr.aO;exact⟨ED y,ys'.map ED,rfl,Th t y h1,xV ts ys' h2⟩
end
theorem Ml:∀ {ts:List R.Tr} {ys:List R.Ex},R.mC (R.Tr.at_ w S) ts ys->R.Tr.aO w S ts ys
 | _,_,.nil=>by unfold R.Tr.aO;rfl
 | _,_,.cons h k=>by unfold R.Tr.aO;exact⟨_,_,rfl,h,Ml k⟩
variable{n:Nat}
theorem Ct{A:Option Addr}  {l:List R.Tr}(h:R.IP.lies w (Old w) A n l):gJ w (gL l) A n:=by obtain⟨h1,ys,h2,h3⟩:=h;exact⟨by rw[lD];exact h1,ys.map ED,afA h2,xV l ys (Ml h3)⟩
variable{γ:Type}
theorem Ti(g:γ->Value):∀ {l:List (R.Tr×γ)} {ys:List (R.Ex×γ)},R.mC (λ x y=>x.1.at_ w S y.1/\y.2=x.2) l ys->Tr.aO w S ((l.map λ x=>(pY x.1,g x.2)).map (·.1)) ((ys.map λ y=>(ED y.1,g y.2)).map (·.1))/\(ys.map λ y=>(ED y.1,g y.2)).map (·.2)=(l.map λ x=>(pY x.1,g x.2)).map (·.2)
 | _,_,.nil=>⟨by simp only[map_nil];unfold Tr.aO;rfl,rfl⟩
 | _,_,.cons h k=>by obtain⟨k1,k2⟩:=Ti g k;simp only[map_cons];refine⟨?_,by rw[k2,h.2]⟩;unfold Tr.aO;exact⟨_,_,rfl,Th _ _ h.1,k1⟩
theorem F9(g:γ->Value) {A:Option Addr}  {l:List (R.Tr×γ)} {ys:List (R.Ex×γ)}(hn:n=l.length)(h:R.RL (λ y:R.Ex×γ=>R.bF y.1++ [g y.2]) 8 w (Old w) A ys)(h2:R.mC (λ x y=>x.1.at_ w (Old w) y.1/\y.2=x.2) l ys):eO w (l.map λ x=>(pY x.1,g x.2)) A n:=by
 obtain⟨k1,k2⟩:=Ti g h2;refine⟨by rw[length_map];exact hn,ys.map λ y=>(ED y.1,g y.2),?_,k2,k1⟩;rcases h with rfl |⟨b,off,Kx,h2,h3⟩
 ·exact .inl rfl
 ·refine .inr ⟨b,off,Kx,h2,λ i x h1=>?_⟩;rw[getElem?_map] at h1
  cases hy:ys[i]? with
  | none=>rw[hy] at h1;cases h1
  | some y=>rw[hy] at h1;injection h1 with h1;subst h1;have k:=h3 i y;exact⟨⟨k 0 _ hy rfl,k 1 _ hy rfl,k 2 _ hy rfl,k 3 _ hy rfl,k 4 _ hy rfl,k 5 _ hy rfl,k 6 _ hy rfl⟩,k 7 _ hy rfl⟩
theorem Tj:∀ {l:List Int} {ys:List Int},R.mC (λ x y=>y=x) l ys->ys=l
 | _,_,.nil=>rfl
 | _,_,.cons h k=>by rw[h,Tj k]
def fk (d:R.Qu):Qy:=⟨d.items.map λ x=>(pY x.1,x.2),d.bS,d.only,gL d.cC,gL d.group,gL d.having,d.order.map λ x=>(pY x.1,x.2),d.dx⟩
def Qc (y:R.xR):QL:=⟨⟨y.items.A,y.items.n,y.items.c⟩,⟨y.cC.A,y.cC.n,y.cC.c⟩,⟨y.group.A,y.group.n,y.group.c⟩,⟨y.having.A,y.having.n,y.having.c⟩,⟨y.order.A,y.order.n,y.order.c⟩,⟨y.dx.A,y.dx.n,y.dx.c⟩⟩
variable{d:R.Qu}
theorem Tk{y:R.xR}(h:d.at_ w (Old w) y):pW w (fk d) (Qc y)/\R.quV y=oy (fk d) (Qc y):=by
 refine⟨⟨?_,Ct h.cC,Ct h.group,Ct h.having,?_,?_⟩,?_⟩
 ·obtain⟨h1,ys,h2,h3⟩:=h.items;have k:=F9 (λ s:ByteArray=>Value.string s) h1 h2 h3;unfold fk;rw[map_map];exact k
 ·obtain⟨h1,ys,h2,h3⟩:=h.order;have k:=F9 (λ s:Bool=>Value.bool s) h1 h2 h3;unfold fk;rw[map_map];exact k
 ·obtain⟨h1,ys,h2,h3⟩:=h.dx;have k:=Tj h3;subst k;refine⟨h1,?_⟩;rcases h2 with h2 |⟨b,off,h2,h3,h4⟩
  ·exact .inl h2
  ·refine .inr ⟨b,off,h2,h3,λ i x hx=>?_⟩;have:=h4 i x 0 _ hx rfl;rw[show off+i*R.Sz.size+0=off+i by show off+i*1+0=off+i;omega] at this;exact this
 ·unfold R.quV R.LV oy fk Qc R.nL;rw[h.bS,h.only]
def df (q:Nat):List Value:=[aw q]
theorem G0:(Tryz.prog.info? 145).map (λ i=>(i.zero,i.size,i.bytes))=some (some (.pointer none),1,8):=by exact Zgu
structure dG (w:World) (B:Nat) (qs:List Nat) (ss:List St):Prop where
 len:qs.length=ss.length
 at_:∀(i:Nat) (q:Nat) (s:St),qs[i]?=some q->ss[i]?=some s->cy w q s
 low:∀q∈qs,B<=q/\q < w.heap.size
 apart:qs.Nodup
variable{B:Nat}
theorem dG.nil:dG w B [] []:=⟨rfl,(λ i q s h _=>by simp at h),(λ q h=>by cases h),List.Pairwise.nil⟩
variable{w':World}{qs:List Nat}{ss:List St}
theorem dG.keep(h:dG w B qs ss)(hs:w.heap.size<=w'.heap.size)(hk:∀q∈qs,w'.heap[q]?=w.heap[q]?):dG w' B qs ss:=
 ⟨h.len,λ i q s hq hs2=>(hk q (mem_of_getElem? hq)).trans (h.at_ i q s hq hs2),λ q hq=>⟨(h.low q hq).1,Nat.lt_of_lt_of_le (h.low q hq).2 hs⟩,h.apart⟩
theorem dG.later(h:dG w B qs ss)(hb:aj w w'):dG w' B qs ss:=
 h.keep hb.size λ q hq=>hb.block q (h.low q hq).2
variable{q:Nat}
theorem dG.snoc{s:St}(h:dG w B qs ss)(hs:cy w q s)(hB:B<=q)(hq:q∉qs)(hl:q < w.heap.size):dG w B (qs++ [q]) (ss++ [s]):=by
 refine⟨by simp[h.len],λ i r t hr ht=>?_,λ r hr=>?_,?_⟩
 ·rcases Nat.lt_or_ge i qs.length with hi | hi
  ·rw[getElem?_append_left hi] at hr;rw[getElem?_append_left TaH] at ht;exact h.at_ i r t hr ht
  ·rw[getElem?_append_right hi] at hr;rw[getElem?_append_right TaH,<- h.len] at ht
   have h0:i - qs.length=0:=by
    rcases Nat.lt_or_ge 0 (i - qs.length)with h1 | h1
    ·rw[getElem?_eq_none (by simp only[length_singleton];omega)] at hr;cases hr
    ·omega
   rw[h0] at hr ht;simp at hr ht;subst hr ht;exact hs
 ·rcases List.mem_append.1 hr with hr | hr
  ·exact h.low r hr
  ·rw[mem_singleton] at hr;subst hr;exact⟨hB,hl⟩
 ·rw[nodup_append];exact⟨h.apart,by simp,λ a ha b hb e=>by rw[mem_singleton] at hb;subst hb e;exact hq ha⟩
variable{base:Nat}{v:Value}{l:List Nat}
theorem dG.ne(h:dG w B qs ss)(ho:aH df 145 1 w base v l):∀q∈qs,v.ownBlock≠some q:=λ q hq=>by obtain⟨i,hi,he⟩:=getElem_of_mem hq;have h1:=h.at_ i q (ss[i]' TaH) Taw (getElem?_eq_getElem _);exact ho.other h1 WC
theorem dG.own(h:dG w B qs ss)(ho:aH df 145 1 w base v l)(hg:w.grownBy w' v.ownBlock):dG w' B qs ss:=
 h.keep hg.size λ q hq=>hg.block q (h.low q hq).2 (Ne.symm (h.ne ho q hq))
variable{g i:Nat}{u:Value}
theorem dG.set(h:dG w B qs ss)(hg:g∉qs):dG (w.setCell ⟨g,i,none⟩ u) B qs ss:=
 h.keep Vb λ q hq=>Below.heap_setCell w ⟨g,i,none⟩ u q (λ e=>hg (by have e2:q=g:=e;rw[<- e2];exact hq))
theorem Gk (gp:Nat)(ys:List Ex)(AA:Option Addr)(ac:Nat)(KA:Option Addr)(kn kc:Nat)(w:World)(hn:ys.length<=1000000)(sB:gp < w.heap.size)(hpa:w.cell? ⟨gp,9,none⟩=some (.slice AA ys.length ac))(hA:RE w w.heap.size AA ys)(hag:∀y∈ys,isAgg y.op=true):
  ar 63 #[aw gp,.slice KA kn kc] w λ e w'=>∃g sv qs,e=.returned (aw g)/\w.heap.size<=g/\g∉qs/\aB w' g 141 #[.slice KA kn kc,sv]/\aH df 145 1 w' w.heap.size sv qs/\dG w' w.heap.size qs (ys.map λ y=>fg y.op)/\aj w w':=by
 have HX:=aB.new w 141 #[.slice KA kn kc,az];have hb0:=ah w (.cells #[.slice KA kn kc,az] 141);have HPA:=aa ((hb0.cell (p:=⟨gp,9,none⟩) sB).trans hpa);have Kd:=aa (Nat.lt_of_lt_of_le sB hb0.size);have HA:=aa hA;have HAG:=aa hag;have HSW:=aa (show w.heap.size <(w.alloc (.cells #[.slice KA kn kc,az] 141)).heap.size by rw[World.size_alloc];omega);clear sB hpa hA hag;go_enter Tryz.func63,Tryz.ntmps63;go_upto_region 2 with fail;generalize w.alloc _=W1 at*;obtain⟨g,hg⟩:∃g,g=w.heap.size:=⟨_,rfl⟩;rw[<- hg] at HX ⊢;have wj:=aa hg;have BI:=aa hb0;have KK:=aa HX;clear hg hb0 HX;have hpa:=HPA.ae;go_wp2_with fail;clear hpa;go_loopw [18] (λ i wr=>∃(j:Nat) (sv:Value) (qs:List Nat),j<=ys.length/\i=af j/\g∉qs/\aB wr g 141 #[.slice KA kn kc,sv]/\aH df 145 1 wr W1.heap.size sv qs/\dG wr W1.heap.size qs ((ys.take j).map λ y=>fg y.op)/\aj w wr/\W1.heap.size<=wr.heap.size) (λ i _=>ys.length - (intOf i).toNat);case atStart=>exact⟨0,_,[],Nat.zero_le _,rfl,by simp,KK.ae,aH.nil,.nil,BI.ae,Nat.le_refl _⟩
 case round=>
  obtain⟨j,sv,qs,hk,rfl,Jg,hG,hO,hS,hb,hs⟩:=hrel;have HO:=aa hO;have M9:=aa hS;have HGQ:=aa Jg;have MN:=aa hG;clear hO hS Jg hG KK BI;by_cases hlt:j < ys.length
  ·obtain⟨b,off,rfl,kG,hex⟩:=(HA.ae.below hb).at_ hlt;have hag:=HAG.ae ys[j] (getElem_mem hlt);have oY:=aa (show(ys.take (j+1)).map (λ y=>fg y.op)=(ys.take j).map (λ y=>fg y.op)++ [fg ys[j].op] by rw[take_add_one,getElem?_eq_getElem hlt,map_append];rfl);have Tf:qs.length<=1000000:=by have:=M9.ae.len;simp at this;omega
   generalize ys[j]=y at*;generalize (ys.take j).map (λ y=>fg y.op)=ss at*;unfold ck at hex;go_upto_region 5 with fail;have k1:=aB.new wr 46 (ay y);have ME:=ah wr (.cells (ay y) 46);have HG:=k1.cell 0;simp only[getElem?_toArray,getElem?_cons_zero] at HG;have HNW:=aa (ace y.op (wr.alloc (.cells (ay y) 46)) hag);have bJ:g < wr.heap.size:=MN.ae.lt;generalize wr.alloc _=W2 at*;obtain⟨g8,XK⟩:∃g8,g8=wr.heap.size:=⟨_,rfl⟩;rw[<- XK] at HG ⊢;clear XK k1 hex hag;go_wp2_with fail;refine HNW.ae.mono ?_;rintro e w6 ⟨p,hp,rfl,hst,b1⟩;have b6:=ai.then ME b1;have yJ:wr.heap.size<=p:=Nat.le_trans ME.size hp;clear ME b1 HNW HG hp;go_upto_region 6 with fail;have bN:=ah w6 (.cells #[aw p] 145);have hGN:=aB.new w6 145 #[aw p];have hL:=ai.then b6 bN;have Mx:=aa (HO.ae.later hL);have Eg:=aa (M9.ae.later hL);have Cu:=aa (MN.ae.later hL);have sO:=aa (aB.later hst bN);have Mm:=aa (ai.then hb hL);have hbase:W1.heap.size<=(w6.alloc (.cells #[aw p] 145)).heap.size:=Nat.le_trans hs hL.size;have Gl:=aa hGN;have hne:=Mx.ae.other Cu.ae WC;have hnp:=Mx.ae.other sO.ae WC;have nJ:=aa hne;have HNP:=aa hnp;have hpl:=sO.ae.lt;have PE:=aa hpl;have hc1:=(MN.ae.later b6).cell 1;simp only[Uaa] at hc1;have SQ:p≠g:=by omega
   have hpq:p∉qs:=λ h=>by have:=(M9.ae.low p h).2;omega
   have HPG:=aa SQ;have HPQ:=aa hpq;have HWP:=aa (Nat.le_trans hs yJ);clear hGN hne hnp hpl bN b6 hL M9 MN hst SQ hpq HO bJ;go_wp2_with (first
    |(at_builtin
      refine aU rfl (.tmp 32) (.tmp 34) 139 rfl _ 8 Tryz.underlying139 G0 rfl Tq p rfl TaU rfl Mx.ae w6.heap.size rfl Gl.ae Tq Tq hbase ?_
      intro v4 w4 U6 g4
      obtain⟨A4,QB,hv4,_⟩:=U6.reads
      rw[length_append,length_singleton] at hv4
      subst hv4
      have G4:=aa (Cu.ae.grown g4 (Ne.symm nJ.ae))
      have gc:=G4.ae.cell 1
      have gf:=G4.ae.frozen 1
      simp only[Uaa] at gc
      have S4:=aa (Eg.ae.own Mx.ae g4)
      have P4:=aa (aB.grown sO.ae g4 (Ne.symm HNP.ae))
      have B4:=aa (bj Mx.ae g4 hbase)
      have s4:=aa g4.size
      have O4:=aa U6
      clear U6 g4))
   go_roundw
   case rel=>
    have hq4:g∉qs++ [p]:=by
     rw[mem_append,mem_singleton];rintro(h | h)
     ·exact HGQ.ae h
     ·exact HPG.ae h.symm
    have hn4:=O4.ae.other G4.ae WC;refine⟨j+1,_,qs++ [p],hlt,by go_num,hq4,G4.ae.aT 1 _,O4.ae.keep λ Lw Kx=>Below.heap_setCell w4 ⟨g,1,none⟩ _ Lw (λ e=>hn4 TaQ),?_,(Mm.ae.trans (B4.ae.mono (Nat.le_of_lt HSW.ae))).setCell TaO _,?_⟩
    ·rw[oY.ae];exact(S4.ae.snoc P4.ae HWP.ae HPQ.ae (aB.lt P4.ae)).set hq4
    ·have h1:=s4.ae;rw[World.size_setCell];exact Nat.le_trans hbase h1
   case measure=>exact Za2
  ·have fJ:j=ys.length:=by omega
   subst fJ;rw[take_length] at M9;go_wp2_with fail;go_ret;exact⟨g,sv,qs,rfl,by rw[wj.ae];exact Nat.le_refl _,HGQ.ae,MN.ae,HO.ae.down (Nat.le_of_lt HSW.ae),⟨M9.ae.len,M9.ae.at_,λ q hq=>⟨Nat.le_trans (Nat.le_of_lt HSW.ae) (M9.ae.low q hq).1,(M9.ae.low q hq).2⟩,M9.ae.apart⟩,hb⟩
def Vw (base:Nat)(l:List Val)(w:World)(e:Ending)(w':World):Prop:=∃v,e=.returned v/\aH aV 44 3 w' base v l/\aj w w'
theorem val_one (l:List Val):∀u∈l.flatMap aV,u.oneCell'=true:=by
 intro u hu;obtain⟨v,_,hv⟩:=List.mem_flatMap.1 hu;simp[aV] at hv;rcases hv with rfl | rfl | rfl <;> rfl
theorem Vx (w:World)(base:Nat)(hb:base<=w.heap.size):aH aV 44 3 (w.alloc (.cells #[] 44)) base (aI w.heap.size 0 0) []:=
 ⟨by simp,.inr ⟨w.heap.size,0,#[],rfl,hb,heap_alloc_new w _,Nat.le_refl _,by simp,by simp,by simp⟩⟩
theorem Cv (A:Option Addr)(c:Nat)(l:List Val)(w:World)(h:RV w w.heap.size A l)(hl:l.length<=1000):
  ar 37 #[.slice A l.length c] w (Vw w.heap.size l w):=by
 have HR:=aa h;clear h
 cases A with
 | none=>
   have hl0:l=[]:=by
    rcases HR.ae with h |⟨b,off,h,_⟩
    ·exact h
    ·cases h
   subst hl0;have hnil:(binOp .eql 38 (.slice none 0 c) (az)).run Tryz.prog w=.ok (.bool true) w:=Go.Lib.run_eql_slice_nil w 38 44 none 0 c 0 0 Tryz.underlying38;go_enter Tryz.func37,Tryz.ntmps37;exact Zhx
 | some ad=>
   have hnil:(binOp .eql 38 (.slice (some ad) l.length c) (az)).run Tryz.prog w=.ok (.bool false) w:=Go.Lib.run_eql_slice_nil w 38 44 (some ad) l.length c 0 0 Tryz.underlying38;obtain⟨i0,kX,hg4,oB,HZ⟩:=info_parts lU;have bb:=ah w (.cells #[] 44);have HO:=aa (Vx w w.heap.size (Nat.le_refl _));have XM:=aa (HR.ae.later bb).reads;have hsz:w.heap.size<=(w.alloc (.cells #[] 44)).heap.size:=bb.size;have HI:=aa kX;have Kg:=aa hg4;have HX:=aa oB;have uX:=aa HZ;clear kX hg4 oB HZ;go_enter Tryz.func37,Tryz.ntmps37;go_wp2_with (first
    |(at_builtin
      refine cN _ rfl (.tmp 5) (.tmp 6) 38 rfl w.heap.size 44 i0 _ 3 32 Tryz.underlying38 HI.ae Kg.ae HX.ae uX.ae rfl Tq _ 0 [] rfl HO.ae _ (some ad) l.length c (l.flatMap aV) rfl XM.ae (val_one l) Taj Tq hsz ?_
      intro v2 w2 o2 g2 _
      have O2:=aa o2
      have G2:=aa g2
      clear o2 g2))
   have b2:=bj HO.ae G2.ae hsz;have O3:aH aV 44 3 w2 w.heap.size v2 l:=by have:=O2.ae;unfold aH;simpa using this
   go_ret;exact⟨_,rfl,O3,bb.trans b2⟩
theorem rD:(Tryz.prog.info? 113).map (λ i=>(i.zero,i.size,i.bytes))=some (some (.agg #[au,ag 0]),2,24):=by exact Zgu
theorem afB:∀ys:List aX,(ys.flatMap aS).length=ys.length*2
 | []=>rfl
 | y::ys=>by rw[flatMap_cons,length_append,afB ys,length_cons];show 2+_=_;omega
theorem RC.reads{A:Option Addr} {l:List aX}(h:RC w B A l):Reads w B 2 A l.length (l.flatMap aS):=by
 refine⟨afB l,λ hn=>?_⟩;rcases h with h |⟨b,off,hA,hb,hc⟩
 ·subst h;simp at hn
 ·refine⟨⟨b,off,none⟩,hA,hb,λ j u hu=>?_⟩;obtain⟨k,r,x,rfl,hr,h2,h3⟩:=Cs (f:=aS) (size:=2) (λ _=>rfl) Tq l j u hu;rw[PZ,<- Nat.add_assoc];have hx:=hc k x h2;unfold mL at hx;unfold aS at h3
  match r,hr with
  | 0,_=>rw[<- h3];exact hx.1
  | 1,_=>rw[<- h3];exact hx.2
def Jh (base:Nat)(l:List aX)(w:World)(e:Ending)(w':World):Prop:=∃v,e=.returned v/\aH aS 113 2 w' base v l/\aj w w'
theorem acQ (l:List aX):∀u∈l.flatMap aS,u.oneCell'=true:=by
 intro u hu;obtain⟨v,_,hv⟩:=List.mem_flatMap.1 hu;simp[aS] at hv;rcases hv with rfl | rfl <;> rfl
theorem Vy (w:World)(base:Nat)(hb:base<=w.heap.size):aH aS 113 2 (w.alloc (.cells #[] 113)) base (aI w.heap.size 0 0) []:=
 ⟨by simp,.inr ⟨w.heap.size,0,#[],rfl,hb,heap_alloc_new w _,Nat.le_refl _,by simp,by simp,by simp⟩⟩
theorem Ji (A:Option Addr)(c:Nat)(l:List aX)(w:World)(h:RC w w.heap.size A l)(hl:l.length<=1000):
  ar 55 #[.slice A l.length c] w (Jh w.heap.size l w):=by
 have HR:=aa h;clear h
 cases A with
 | none=>
   have hl0:l=[]:=by
    rcases HR.ae with h |⟨b,off,h,_⟩
    ·exact h
    ·cases h
   subst hl0;have hnil:(binOp .eql 28 (.slice none 0 c) (az)).run Tryz.prog w=.ok (.bool true) w:=Go.Lib.run_eql_slice_nil w 28 113 none 0 c 0 0 Tryz.underlying28;go_enter Tryz.func55,Tryz.ntmps55;exact Zhx
 | some ad=>
   have hnil:(binOp .eql 28 (.slice (some ad) l.length c) (az)).run Tryz.prog w=.ok (.bool false) w:=Go.Lib.run_eql_slice_nil w 28 113 (some ad) l.length c 0 0 Tryz.underlying28;obtain⟨i0,kX,hg4,oB,HZ⟩:=info_parts rD;have bb:=ah w (.cells #[] 113);have HO:=aa (Vy w w.heap.size (Nat.le_refl _));have XM:=aa (HR.ae.later bb).reads;have hsz:w.heap.size<=(w.alloc (.cells #[] 113)).heap.size:=bb.size;have HI:=aa kX;have Kg:=aa hg4;have HX:=aa oB;have uX:=aa HZ;clear kX hg4 oB HZ;go_enter Tryz.func55,Tryz.ntmps55;go_wp2_with (first
    |(at_builtin
      refine cN _ rfl (.tmp 5) (.tmp 6) 28 rfl w.heap.size 113 i0 _ 2 24 Tryz.underlying28 HI.ae Kg.ae HX.ae uX.ae rfl Tq _ 0 [] rfl HO.ae _ (some ad) l.length c (l.flatMap aS) rfl XM.ae (acQ l) Taj Tq hsz ?_
      intro v2 w2 o2 g2 _
      have O2:=aa o2
      have G2:=aa g2
      clear o2 g2))
   have b2:=bj HO.ae G2.ae hsz;have O3:aH aS 113 2 w2 w.heap.size v2 l:=by have:=O2.ae;unfold aH;simpa using this
   go_ret;exact⟨_,rfl,O3,bb.trans b2⟩
def Mine (w:World)(base:Nat)(cl:List aW):Prop:=∀r∈cl,aH aV 44 3 w base r.v r.l
variable{cl:List aW}
theorem Mine.later(h:Mine w base cl)(hb:aj w w'):Mine w' base cl:=λ r hr=>(h r hr).later hb
variable{base':Nat}{cl':List aW}{ov:Value}
theorem Mine.grown(h:Mine w base cl)(ho:aH bX 38 1 w base' ov cl')(hg:w.grownBy w' ov.ownBlock):Mine w' base cl:=λ r hr=>by
 refine(h r hr).keep λ q hq=>?_
 obtain⟨h1,h2,cur,h3⟩:=(h r hr).lt hq;exact hg.block q h1 λ e=>ho.other (show aB w q 44 cur from h3) WC e.symm
theorem Tl(h:aH bX 38 1 w base v cl)(hm:Mine w base cl):∃A c,v=.slice A cl.length c/\RR w w.heap.size A cl:=by
 obtain⟨A,c,hv,hc⟩:=eh (f:=bX) (size:=1) (λ _=>rfl) h;refine⟨A,c,hv,?_⟩;rcases hc with hc |⟨g,hA,hg,hc⟩
 ·exact .inl hc
 ·refine .inr ⟨g,0,hA,hg,λ i r hr=>⟨?_,?_⟩⟩
  ·have:=hc i r 0 _ hr Tq rfl;exact ZeZ
  ·obtain⟨A2,c2,e1,e2⟩:=Hw (hm r (mem_of_getElem? hr));unfold aW.v at e1;injection e1 with e1;rw[e1];exact e2
theorem pB(h:w.grownBy w' none):aj w w':=⟨h.os,h.tape,h.output,h.size,λ k hk=>h.block k hk Vb⟩
theorem Jj (aL:List aW)(RA:Option Addr)(rc:Nat)(w:World)(hn:aL.length<=1000000)(hl:∀r∈aL,r.l.length<=1000000)(hR:RR w w.heap.size RA aL):
  ar 12 #[.slice RA aL.length rc] w λ e w'=>∃v cl,e=.returned v/\aH bX 38 1 w' w.heap.size v cl/\Mine w' w.heap.size cl/\cl.map (·.l)=aL.map (·.l)/\aj w w':=by
 have HR:=aa hR;have zP:=aa hl;clear hR hl;go_enter Tryz.func12,Tryz.ntmps12;go_wp2_with fail;go_loopw [3,4] (λ v i wr=>∃(k:Nat) (cl:List aW),k<=aL.length/\i=af k/\aH bX 38 1 wr w.heap.size v cl/\Mine wr w.heap.size cl/\cl.map (·.l)=(aL.take k).map (·.l)/\aj w wr) (λ _ i _=>aL.length - (intOf i).toNat);case atStart=>exact⟨0,[],Nat.zero_le _,rfl,aH.nil,(λ r hr=>by cases hr),rfl,Below.refl _ _⟩
 case round=>
  obtain⟨k,cl,hk,rfl,ho,hm,he,hb⟩:=hrel;have HO:=aa ho;have HM:=aa hm;have HE:=aa he;clear ho hm he;by_cases hlt:k < aL.length
  ·obtain⟨b,off,rfl,kG,hcell,uY⟩:=(HR.ae.below hb).at_ hlt;have oY:=aa (show(aL.take (k+1)).map (·.l)=(aL.take k).map (·.l)++ [aL[k].l] by rw[take_add_one,getElem?_eq_getElem hlt,map_append];rfl);have kH:=zP.ae aL[k] (getElem_mem hlt);have bU:cl.length<=1000000:=by have h1:=congrArg List.length HE.ae;simp only[length_map,length_take] at h1;omega
   generalize aL[k]=r at*;have rC:=aa (uY.more hb.size).reads;have hbase:=hb.size;obtain⟨i0,kX,hz0,hz1,hz2⟩:=info_parts lU;have HI:=aa kX;have HZ0:=aa hz0;have uX:=aa hz1;have tC:=aa hz2;have hnil:wr.ownsRow w.heap.size 44 3 (az) 0 []:=⟨rfl,.inl ⟨rfl,rfl⟩⟩;have ZV:=aa hnil;clear kX hz0 hz1 hz2 uY hnil;go_wp2_with (first
    |(at_builtin
      refine cN wr rfl (.const (az)) (.tmp 15) 38 rfl w.heap.size 44 i0 _ 3 32 Tryz.underlying38 HI.ae HZ0.ae uX.ae tC.ae rfl Tq _ 0 [] rfl ZV.ae wr.heap.size r.A r.l.length r.c (r.l.flatMap aV) rfl rC.ae (val_one r.l) Taj Tq hbase ?_
      intro v2 w2 o2 g2 _
      have b2:=pB g2
      have O2:aH aV 44 3 w2 w.heap.size v2 r.l:=by
       unfold aH
       simpa using o2
      obtain⟨A2,c2,hv2,_⟩:=O2.reads
      subst hv2
      have O2H:=aa O2
      have B2:=aa b2
      clear o2 g2 O2 b2)
    |(at_builtin
      refine aU rfl (.tmp 11) (.tmp 17) 29 rfl _ 24 Tryz.underlying29 qU rfl Tq (⟨A2,r.l,c2⟩:aW) rfl TaA rfl ((HO.ae.later B2.ae).later (ah w2 _)) w2.heap.size rfl (aB.new w2 _ _) Tq Tq (Nat.le_trans hbase (Nat.le_trans B2.ae.size (ah w2 _).size)) ?_
      intro v4 w4 o4 g4
      have M4:=aa (Mine.grown (Mine.later (Mine.later HM.ae B2.ae) (ah w2 _)) ((HO.ae.later B2.ae).later (ah w2 _)) g4)
      have N4:=aa (Mine.grown (cl:=[(⟨A2,r.l,c2⟩:aW)]) (λ q hq=>by rw[mem_singleton] at hq;subst hq;exact O2H.ae.later (ah w2 _)) ((HO.ae.later B2.ae).later (ah w2 _)) g4)
      have b4:=bj ((HO.ae.later B2.ae).later (ah w2 _)) g4 (Nat.le_trans hbase (Nat.le_trans B2.ae.size (ah w2 _).size))
      have B4:=aa ((ai.then (ai.then hb B2.ae) (ah w2 _)).trans b4)
      have O4:=aa o4
      clear o4 g4 b4))
   go_roundw
   case rel=>
    refine⟨k+1,cl++ [⟨A2,r.l,c2⟩],hlt,by go_num,O4.ae,λ q hq=>?_,?_,B4.ae⟩
    ·rcases List.mem_append.1 hq with h | h
     ·exact M4.ae q h
     ·exact N4.ae q h
    ·rw[map_append,HE.ae,oY.ae];rfl
   case measure=>exact Za2
  ·have fJ:k=aL.length:=by omega
   subst fJ;rw[take_length] at HE;go_wp2_with fail;exact bodyPost_ret (v:=u3) (by simp[results,Tryz.results12,go_sem]) rfl ⟨_,rfl,cl,HO.ae,HM.ae,HE.ae,hb⟩
variable{b:Nat}
theorem bH(h:w'.heap[b]?=w.heap[b]?)(o:Nat):w'.cell? ⟨b,o,none⟩=w.cell? ⟨b,o,none⟩:=by unfold World.cell?;dsimp only;rw[h]
def Kp (w:World)(gp:Nat)(us:List Value)(b:Nat):Prop:=b < w.heap.size/\b≠gp/\∀u∈us,u.ownBlock≠some b
def Mv (w:World)(u u':Value):Prop:=u'.ownBlock=u.ownBlock\/∀q,u'.ownBlock=some q->w.heap.size<=q
theorem Mv.refl (w:World)(u:Value):Mv w u u:=.inl rfl
variable{w1:World}{u1 u2:Value}
theorem Mv.trans(h:Mv w u u1)(k:Mv w1 u1 u2)(hs:w.heap.size<=w1.heap.size):Mv w u u2:=by
 rcases k with k | k
 ·rcases h with h | h
  ·exact .inl (k.trans h)
  ·exact .inr λ q hq=>h q (k▸hq)
 ·exact .inr λ q hq=>Nat.le_trans hs (k q hq)
variable{u':Value}
theorem Mv.ne(h:Mv w u u')(hb:b < w.heap.size)(hu:u.ownBlock≠some b):u'.ownBlock≠some b:=λ e=>by
 rcases h with h | h
 ·exact hu (h▸e)
 ·have:=h b e;omega
structure gM (gp:Nat) (w:World) (u v:Value) (w':World) (u' v':Value):Prop where
 os:w'.os=w.os
 tape:w'.tape=w.tape
 output:w'.output=w.output
 size:w.heap.size<=w'.heap.size
 block:∀k,Kp w gp [u,v] k->w'.heap[k]?=w.heap[k]?
 mu:Mv w u u'
 mv:Mv w v v'
variable{gp:Nat}
theorem eu:Kp w gp [u,v] b↔b < w.heap.size/\b≠gp/\u.ownBlock≠some b/\v.ownBlock≠some b:=by unfold Kp;simp
variable{v':Value}
theorem gM.kp(h:gM gp w u v w' u' v')(hb:Kp w gp [u,v] b):Kp w' gp [u',v'] b:=by rw[eu] at*;exact⟨Nat.lt_of_lt_of_le hb.1 h.size,hb.2.1,h.mu.ne hb.1 hb.2.2.1,h.mv.ne hb.1 hb.2.2.2⟩
theorem gM.refl (gp:Nat)(w:World)(u v:Value):gM gp w u v w u v:=⟨rfl,rfl,rfl,Nat.le_refl _,λ _ _=>rfl,.inl rfl,.inl rfl⟩
variable{w2:World}{v1 v2:Value}
theorem gM.trans(h:gM gp w u v w1 u1 v1)(k:gM gp w1 u1 v1 w2 u2 v2):gM gp w u v w2 u2 v2:=
 ⟨k.os.trans h.os,k.tape.trans h.tape,k.output.trans h.output,Nat.le_trans h.size k.size,λ b hb=>(k.block b (h.kp hb)).trans (h.block b hb),h.mu.trans k.mu h.size,h.mv.trans k.mv h.size⟩
theorem gM.later(h:gM gp w u v w1 u1 v1)(hb:aj w1 w2):gM gp w u v w2 u1 v1:=
 h.trans ⟨hb.os,hb.tape,hb.output,hb.size,λ k hk=>hb.block k hk.1,.inl rfl,.inl rfl⟩
theorem gM.own(h:gM gp w u v w1 u1 v1)(hb:w1.grownBy w2 (some q))(hq:w.heap.size<=q):gM gp w u v w2 u1 v1:=
 ⟨hb.os.trans h.os,hb.tape.trans h.tape,hb.output.trans h.output,Nat.le_trans h.size hb.size,λ k hk=>(hb.block k (Nat.lt_of_lt_of_le hk.1 h.size) λ e=>by injection e with e;have:=hk.1;omega).trans (h.block k hk),h.mu,h.mv⟩
theorem gM.atY{r:Value}(h:gM gp w u v w1 u1 v1)(hb:w1.grownBy w2 r.ownBlock)(hq:∀q,r.ownBlock=some q->w.heap.size<=q):gM gp w u v w2 u1 v1:=
 ⟨hb.os.trans h.os,hb.tape.trans h.tape,hb.output.trans h.output,Nat.le_trans h.size hb.size,λ k hk=>(hb.block k (Nat.lt_of_lt_of_le hk.1 h.size) λ e=>by have:=hq k e.symm;have:=hk.1;omega).trans (h.block k hk),h.mu,h.mv⟩
theorem gM.low(h:gM gp w u v w' u' v')(hB:B<=w.heap.size)(hg:B<=gp)(hu:∀q,u.ownBlock=some q->B<=q)(hv:∀q,v.ownBlock=some q->B<=q):Below B w w':=
 ⟨h.os,h.tape,h.output,h.size,λ k hk=>h.block k (eu.2 ⟨by omega,by omega,λ e=>by have:=hu k e;omega,λ e=>by have:=hv k e;omega⟩)⟩
variable{t:Tr}{y:Ex}
theorem gM.tree(h:gM gp w u v w' u' v')(ht:t.at_ w (λ b=>S b/\Kp w gp [u,v] b) y):t.at_ w' (λ b=>S b/\Kp w' gp [u',v'] b) y:=
 Tr.at_.keep (λ b hb=>⟨λ o=>bH (h.block b hb.2) o,hb.1,h.kp hb.2⟩) t y ht
theorem gM.trees{t:List Tr} {y:List Ex} (h:gM gp w u v w' u' v')(ht:Tr.aO w (λ b=>S b/\Kp w gp [u,v] b) t y):Tr.aO w' (λ b=>S b/\Kp w' gp [u',v'] b) t y:=
 Tr.aO.keep (λ b hb=>⟨λ o=>bH (h.block b hb.2) o,hb.1,h.kp hb.2⟩) t y ht
variable{α:Type}{f:α->List Value}{e:TypeId}
theorem gM.atZ{size:Nat}  {r:Value} {l:List α}(h:gM gp w u v w' u' v')(ho:aH f e size w base r l)(hr:∀q,r.ownBlock=some q->Kp w gp [u,v] q):aH f e size w' base r l:=ho.keep λ g hg=>h.block g (hr g hg)
variable{cs:Array Value}
theorem gM.blk{t:TypeId} (h:gM gp w u v w' u' v')(ho:aB w g t cs)(hr:Kp w gp [u,v] g):aB w' g t cs:=(h.block g hr).trans ho
variable{us:List Value}
theorem G1(h:t.at_ w (λ b=>S b/\Kp w gp us b) y):t.at_ w (Old w) y:=Tr.at_.keep (λ b hb=>⟨λ _=>rfl,hb.2.1⟩) t y h
theorem Tr.all_append:∀ {ts us:List Tr} {ys zs:List Ex},Tr.aO w S ts ys->Tr.aO w S us zs->Tr.aO w S (ts++us) (ys++zs)
 | [],us,ys,zs,h,k=>by unfold Tr.aO at h;subst h;exact k
 | t::ts,us,ys,zs,h,k=>by unfold Tr.aO at h;obtain⟨y,ys',rfl,h1,h2⟩:=h;rw[cons_append,cons_append];unfold Tr.aO;exact⟨y,ys'++zs,rfl,h1,Tr.all_append h2 k⟩
theorem Tr.fO(h:t.at_ w S y):Tr.aO w S [t] [y]:=by unfold Tr.aO;refine⟨y,[],rfl,h,?_⟩;unfold Tr.aO;rfl
variable{P:Program}{rest:List Oper}{o:Oper}{a:Act}{Q:Exit->Act->World->Prop}
theorem mZ{size:Nat}   {l:List α}  {ops:Array Oper}    (hgd:o.guard=none)(s x:Operand)(t:TypeId)
  (ho:o.op=.call { callee:=.builtin .append,args:= #[s,x],argTypes:= #[t,t] })
  (z:Value) (bytes:Nat) (ht:P.underlying t=some (.slice e)) (jr:(P.info? e).map (λ i=>(i.zero,i.size,i.bytes))=some (some z,size,bytes)) (hzs:z.cells.size=size) (hsz:0 < size)
  (y:α) (hf:(f y).length=size) (h1:∀u∈f y,u.oneCell'=true)
  (hs:a.eval s=v) (hown:aH f e size w base v l)
  (g:Nat) (hx:a.eval x=aI g 1 1) (hg:aB w g e (f y).toArray)
  (hlen:(l.length+1)*bytes<=140737488355328) (mI:l.length+1<=140737488355328) (hbase:base<=w.heap.size)
  (h:∀v' w',aH f e size w' base v' (l++ [y])->w.grownBy w' v.ownBlock->Mv w v v'->wpList P ops Q rest (a.put o.dst v') w'):wpList P ops Q (o::rest) a w:=by
 obtain⟨i0,kX,hz0,hz1,hz2⟩:=info_parts jr;refine cN w hgd s x t ho base e i0 z size bytes ht kX hz0 hz1 hz2 hzs hsz v l.length (l.flatMap f) hs hown (g+1) (some ⟨g,0,none⟩) 1 1 (f y) hx ⟨by omega,λ _=>⟨_,rfl,Nat.lt_succ_self _,?_⟩⟩ h1 Taj hlen hbase ?_
 ·exact ZeV
 ·intro v' w' h2 h3 h4;refine h v' w' Zhc h3 ZfK
def acR (k:Int)(q:Qy)(L:QL):Array Value:= #[ag k,au,az,au,af 0,au,af 0,.slice L.i.A L.i.n L.i.c,.string q.bS,.bool q.only,.slice L.w.A L.w.n L.w.c,.slice L.g.A L.g.n L.g.c,.slice L.h.A L.h.n L.h.c,.slice L.o.A L.o.n L.o.c,.slice L.l.A L.l.n L.l.c,ag 0,au,af 0,af 0,az,az,az,ag 0,af 0,au,ag 0,af 0,au]
def NN (q:Qy)(L:QL):Array Value:= #[ag 0,au,az,au,af 0,au,af 0,.slice L.i.A L.i.n L.i.c,.string q.bS,.bool q.only,.slice L.w.A L.w.n L.w.c,.slice L.g.A L.g.n L.g.c,.slice L.h.A L.h.n L.h.c,.slice L.o.A L.o.n L.o.c,.slice L.l.A L.l.n L.l.c,ag 0,au,af 0,af 0,az,az,az,ag 0,af 0,au,ag 0,af 0,au]
structure kx (w:World) (g:Nat) (cs:Array Value) (v:Value) (l:List Ex) (wr:World):Prop where
 own:aH bF 46 7 wr w.heap.size v l
 blk:aB wr g 27 cs
 low:aj w wr
variable{wr:World}
theorem kx.later{l:List Ex} (h:kx w g cs v l wr)(hb:aj wr w'):kx w g cs v l w':=⟨h.own.later hb,h.blk.later hb,Below.trans h.low (hb.mono h.low.size)⟩
def exK (w:World)(g:Nat)(cs:Array Value)(v0:Value)(acc l1 l2 l3:List Ex):List Value->World->Prop
 | [],wr=>kx w g cs v0 acc wr
 | [a],wr=>kx w g cs a (acc++l1) wr
 | [_,b],wr=>kx w g cs b (acc++l1++l2) wr
 | [_,_,c],wr=>kx w g cs c (acc++l1++l2++l3) wr
 | _,_=>False
theorem G3 (w:World)(g:Nat)(cs:Array Value)(v0:Value)(acc l1 l2 l3:List Ex):∀vs wr,exK w g cs v0 acc l1 l2 l3 vs wr->exK w g cs v0 acc l1 l2 l3 vs wr.drew
 | [],wr,h=>kx.later h (Below.refl _ _).drew
 | [a],wr,h=>kx.later h (Below.refl _ _).drew
 | [_,b],wr,h=>kx.later h (Below.refl _ _).drew
 | [_,_,c],wr,h=>kx.later h (Below.refl _ _).drew
 | _::_::_::_::_,wr,h=>h.elim
variable{v0:Value}{acc l1 l2 l3:List Ex}
theorem Jk:∀vs wr,exK w g cs v0 acc l1 l2 l3 vs wr->aB wr g 27 cs
 | [],wr,h=>h.blk
 | [a],wr,h=>h.blk
 | [_,b],wr,h=>h.blk
 | [_,_,c],wr,h=>h.blk
 | _::_::_::_::_,wr,h=>h.elim
theorem ml{l m:List Ex} {A:Option Addr} {c:Nat}(h:kx w g cs v l wr)(hm:RE wr wr.heap.size A m)(hl:l.length+m.length<=4400000):
  ∃v' w',(Builtin.append_ #[23,23] 23 #[v,.slice A m.length c]).run Tryz.prog wr=.ok v' w'/\kx w g cs v' (l++m) w':=by obtain⟨i0,kX,hz0,hz1,hz2⟩:=info_parts fL;obtain⟨v',w',h1,h2,h3,_⟩:=jd (P:=Tryz.prog) wr w.heap.size 23 23 46 i0 _ 7 88 Tryz.underlying23 kX hz0 hz1 hz2 rfl Tq v l.length (l.flatMap bF) h.own _ A m.length c (m.flatMap bF) hm.reads (Qa m) Taj Tq h.low.size;refine⟨v',w',h1,?_,h.blk.grown h3 (λ e=>h.own.other h.blk WC e.symm),Below.trans h.low (bj h.own h3 h.low.size)⟩;unfold aH;rw[length_append,flatMap_append];exact h2
theorem G5{l:List (Tr×Value)} {A:Option Addr} (h:eO w l A n):∃ys:List (Ex×Value),n=ys.length/\RI w w.heap.size A ys/\Tr.aO w (Old w) (l.map (·.1)) (ys.map (·.1)):=by obtain⟨hn,ys,h1,h2,h3⟩:=h;refine⟨ys,?_,h1,h3⟩;have:=congrArg List.length h2;simp at this;omega
variable{ts:List Tr}
theorem Jl{A:Option Addr} (h:gJ w ts A n):∃ys,n=ys.length/\RE w w.heap.size A ys/\Tr.aO w (Old w) ts ys:=by obtain⟨hn,ys,h1,h2⟩:=h;refine⟨ys,by rw[hn,Tr.aO.length h2],?_,h2⟩;exact ZcT
theorem uA{k:Int}(q:Qy)(L:QL)(w:World)(hq:pW w q L)(hlen:q.items.length+q.cC.length+q.aL.length+q.ft.length+q.ord.length<=1100000):
  ar 23 #[.agg (acR k q L)] w λ e w'=>∃v ys,e=.returned v/\aH bF 46 7 w' w.heap.size v ys/\Tr.aO w (Old w) q.all ys/\aj w w':=by
 obtain⟨zi,ni,hF,ti⟩:=G5 hq.i;obtain⟨zo,no,ih,eD⟩:=G5 hq.o;obtain⟨yw,nw,q1,tw⟩:=Jl hq.w;obtain⟨yg,ng,q2,tg⟩:=Jl hq.g;obtain⟨yh,nh,q3,th⟩:=Jl hq.h;have q4:zi.length+yw.length+yg.length+yh.length+zo.length<=1100000:=by have a1:=Tr.aO.length ti;have a2:=Tr.aO.length eD;have a3:=Tr.aO.length tw;have a4:=Tr.aO.length tg;have a5:=Tr.aO.length th;simp at a1 a2;omega
 have Cb:=aa (show Tr.aO w (Old w) q.all (zi.map (·.1)++yw++yg++yh++zo.map (·.1)) by
  unfold Qy.all
  have e1:q.items.map (·.1)=(q.items.map λ x=>(x.1,Value.string x.2)).map (·.1):=by rw[map_map];rfl
  have e2:q.ord.map (·.1)=(q.ord.map λ x=>(x.1,Value.bool x.2)).map (·.1):=by rw[map_map];rfl
  rw[e1,e2,<- append_assoc,<- append_assoc]
  exact Tr.all_append (Tr.all_append (Tr.all_append (Tr.all_append ti tw) tg) th) eD)
 have HF:=aa hF;have IH:=aa ih;have Q1:=aa q1;have HFN:=aa q2;have Q3:=aa q3;have Q4:=aa q4;obtain⟨i0,kX,hg4,oB,HZ⟩:=info_parts fL;have HI:=aa kX;have Kg:=aa hg4;have HX:=aa oB;have uX:=aa HZ;clear kX hg4 oB HZ;unfold acR;rw[ni,no,nw,ng,nh];have b1:=ah w (.cells #[ag k,au,az,au,af 0,au,af 0,.slice L.i.A zi.length L.i.c,.string q.bS,.bool q.only,.slice L.w.A yw.length L.w.c,.slice L.g.A yg.length L.g.c,.slice L.h.A yh.length L.h.c,.slice L.o.A zo.length L.o.c,.slice L.l.A L.l.n L.l.c,ag 0,au,af 0,af 0,az,az,az,ag 0,af 0,au,ag 0,af 0,au] 64);have k1:=aB.new w 64 #[ag k,au,az,au,af 0,au,af 0,.slice L.i.A zi.length L.i.c,.string q.bS,.bool q.only,.slice L.w.A yw.length L.w.c,.slice L.g.A yg.length L.g.c,.slice L.h.A yh.length L.h.c,.slice L.o.A zo.length L.o.c,.slice L.l.A L.l.n L.l.c,ag 0,au,af 0,af 0,az,az,az,ag 0,af 0,au,ag 0,af 0,au];have eL:=aa b1;have c7:=k1.cell 7;have c8:=k1.cell 8;have c9:=k1.cell 9;have c10:=k1.cell 10;have c11:=k1.cell 11;have c12:=k1.cell 12;have Yb:=k1.cell 13;have c14:=k1.cell 14;have Rz:=k1.cell 19;have RD:=k1.cell 20;have c21:=k1.cell 21;simp only[Uaa] at c7 c8 c9 c10 c11 c12 Yb c14 Rz RD c21;clear hq hlen ni no nw ng nh hF ih q1 q2 q3 ti eD tw tg th q4 b1 k1;go_enter Tryz.func23,Tryz.ntmps23;go_upto_region 1 with fail;generalize w.alloc _=W1 at*;go_wp2_with fail;go_loopw [3,4] (λ v iv wr=>v=az/\iv=af 0/\wr=W1) (λ _ _ _=>0);case atStart=>exact Zhz
 case round=>
  obtain⟨rfl,rfl,rfl⟩:=hrel;go_wp2_with fail;go_loopw [3,5] (λ v iv wr2=>v=az/\iv=af 0/\wr2=wr) (λ _ _ _=>0);case atStart=>exact Zhz
  case round=>
   obtain⟨rfl,rfl,rfl⟩:=hrel;go_upto_region 12 with fail;clear c7 c8 c9 c10 c11 c12 Yb c14 Rz RD c21;have b2:=ah wr (.cells #[.slice L.i.A zi.length L.i.c,.string q.bS,.bool q.only,.slice L.w.A yw.length L.w.c,.slice L.g.A yg.length L.g.c,.slice L.h.A yh.length L.h.c,.slice L.o.A zo.length L.o.c,.slice L.l.A L.l.n L.l.c] 27);have k2:=aB.new wr 27 #[.slice L.i.A zi.length L.i.c,.string q.bS,.bool q.only,.slice L.w.A yw.length L.w.c,.slice L.g.A yg.length L.g.c,.slice L.h.A yh.length L.h.c,.slice L.o.A zo.length L.o.c,.slice L.l.A L.l.n L.l.c];have KK:=aa (kx.mk aH.nil k2 (Below.trans eL.ae (b2.mono eL.ae.size)):kx w wr.heap.size _ (az) [] _);generalize wr.alloc (.cells #[.slice L.i.A zi.length L.i.c,.string q.bS,.bool q.only,.slice L.w.A yw.length L.w.c,.slice L.g.A yg.length L.g.c,.slice L.h.A yh.length L.h.c,.slice L.o.A zo.length L.o.c,.slice L.l.A L.l.n L.l.c] 27)=W2 at*;obtain⟨gq,Jg⟩:∃gq,gq=wr.heap.size:=⟨_,rfl⟩;rw[<- Jg] at KK ⊢;clear b2 k2 Jg eL;go_wp2_with fail;generalize wr=wz at*;go_loopw [3,7] (λ v iv wr=>∃(k:Nat),k<=zi.length/\iv=af k/\kx w gq #[.slice L.i.A zi.length L.i.c,.string q.bS,.bool q.only,.slice L.w.A yw.length L.w.c,.slice L.g.A yg.length L.g.c,.slice L.h.A yh.length L.h.c,.slice L.o.A zo.length L.o.c,.slice L.l.A L.l.n L.l.c] v ((zi.take k).map (·.1)) wr) (λ _ iv _=>zi.length - (intOf iv).toNat);case atStart=>exact⟨0,Nat.zero_le _,rfl,KK.ae⟩
   case round=>
    obtain⟨k,hk,rfl,hx⟩:=hrel;have XN:=aa hx;have Kx:=hx.blk.cell 0;simp only[getElem?_toArray,getElem?_cons_zero] at Kx;have hk9:k<=1100000:=by have:=Q4.ae;omega
    clear hx KK;by_cases hkz:k < zi.length
    ·obtain⟨b,off,hA,kG,hex⟩:∃b off,L.i.A=some ⟨b,off,none⟩/\b < w.heap.size/\ck w b (off+k*8) zi[k].1:=by
      rcases HF.ae with h |⟨b,off,h1,h2,h3⟩
      ·rw[h] at hkz;simp at hkz
      ·exact Zhm
     have iE:=hex.keep (λ o=>XN.ae.low.cell (p:=⟨b,o,none⟩) kG);have oY:=aa (show(zi.take (k+1)).map (·.1)=(zi.take k).map (·.1)++ [zi[k].1] by rw[take_add_one,getElem?_eq_getElem hkz,map_append];rfl);have xp:((zi.take k).map (·.1)).length=k:=by rw[length_map,length_take];omega
     generalize zi[k].1=y at*;generalize (zi.take k).map (·.1)=acc at*;unfold ck at iE;obtain⟨A3,c3,hv3,_⟩:=XN.ae.own.reads;rw[xp] at hv3;subst hv3;rw[hA] at Kx;clear hA;have bN:=ah wr (.cells (ay y) 46);have hG:=aB.new wr 46 (ay y);have kI:=aa (XN.ae.later bN);have HG:=aa hG;have hbase:=kI.ae.low.size;clear bN hG hex kG;go_wp2_with (first
      |(at_builtin
        refine aU (f:=bF) rfl (.tmp 52) (.tmp 59) 23 rfl _ 88 Tryz.underlying23 fL rfl Tq y rfl (by intro u hu;simp[bF] at hu;rcases hu with rfl | rfl | rfl | rfl | rfl | rfl | rfl <;> rfl) rfl kI.ae.own wr.heap.size rfl HG.ae Tq Tq hbase ?_
        intro v4 w4 o4 g4
        have O4:=aa (kx.mk o4 (kI.ae.blk.grown g4 (λ e=>kI.ae.own.other kI.ae.blk WC e.symm)) (Below.trans kI.ae.low (bj kI.ae.own g4 hbase)))
        clear o4 g4))
     exact ZfY
    ·have fJ:k=zi.length:=by omega
     subst fJ;have Vz:=aa (show kx w gq _ u3 (zi.map (·.1)) wr by have h1:=XN.ae;rwa [take_length] at h1);have hlz:(zi.map (·.1)).length=zi.length:=length_map _;have HLZ:=aa hlz;obtain⟨acc,acx⟩:∃acc,acc=zi.map (·.1):=⟨_,rfl⟩;rw[<- acx] at Vz HLZ Cb;clear acx;obtain⟨A3,c3,hv3,_⟩:=Vz.ae.own.reads;subst hv3;clear XN hlz;go_upto_region 16 with fail;clear Kx;obtain⟨cs,hcs⟩:∃cs:Array Value,cs= #[.slice L.i.A zi.length L.i.c,.string q.bS,.bool q.only,.slice L.w.A yw.length L.w.c,.slice L.g.A yg.length L.g.c,.slice L.h.A yh.length L.h.c,.slice L.o.A zo.length L.o.c,.slice L.l.A L.l.n L.l.c]:=⟨_,rfl⟩;have hk3:cs[3]?=some (.slice L.w.A yw.length L.w.c):=by rw[hcs];rfl
     have hk4:cs[4]?=some (.slice L.g.A yg.length L.g.c):=by rw[hcs];rfl
     have hk5:cs[5]?=some (.slice L.h.A yh.length L.h.c):=by rw[hcs];rfl
     have rB:=aa (show kx w gq cs (.slice A3 acc.length c3) acc wr by rw[hcs];exact Vz.ae);have NP:=aa hcs;clear hcs Vz;refine Mj (P:=Tryz.prog) (J:=exK w gq cs (.slice A3 acc.length c3) acc yw yg yh) (q:=6) (s:=3) (d0:=61) (d1:=62) (d2:=63) (d3:=64) (d4:=65) (d5:=66) (d6:=67) (d7:=68) (d8:=69) (d9:=70) (pq:=aw gq) (v0:=.slice A3 acc.length c3) (p1:=ba gq 3) (p2:=ba gq 4) (p3:=ba gq 5) (s1:=.slice L.w.A yw.length L.w.c) (s2:=.slice L.g.A yg.length L.g.c) (s3:=.slice L.h.A yh.length L.h.c) (A1:=⟨gq,3,none⟩) (A2:=⟨gq,4,none⟩) (A3:=⟨gq,5,none⟩) 23 (G3 _ _ _ _ _ _ _ _) rB.ae T8 T8 T8 T8 T8 rfl rfl ?_ ?_ ?_ ?_ (λ vs w' h=>⟨((Jk vs w' h).cell 3).trans hk3,((Jk vs w' h).cell 4).trans hk4,((Jk vs w' h).cell 5).trans hk5⟩) ?_ ?_ ?_ ?_ ?_ ?_ ?_ ?_ ?_ ?_
     ·exact Zb9
     ·exact Zb9
     ·exact Zb9
     ·exact Zb9
     ·exact Zdw
     ·exact Zdw
     ·exact Zdw
     ·exact ZgH
     ·exact ZgH
     ·exact ZgH
     ·intro w5 Lw;exact ml Lw ((Q1.ae.below (show kx w gq cs _ acc w5 from Lw).low).more (show kx w gq cs _ acc w5 from Lw).low.size) (by have:=Q4.ae;have:=HLZ.ae;omega)
     ·intro a w5 Lw;have Lw:kx w gq cs a (acc++yw) w5:=Lw;exact ml Lw ((HFN.ae.below Lw.low).more Lw.low.size) (by have:=Q4.ae;have:=HLZ.ae;rw[length_append];omega)
     ·intro a b w5 Lw;have Lw:kx w gq cs b (acc++yw++yg) w5:=Lw;exact ml Lw ((Q3.ae.below Lw.low).more Lw.low.size) (by have:=Q4.ae;have:=HLZ.ae;rw[length_append,length_append];omega)
     intro va vb vc W7 hX7;have Tm:=aa (show kx w gq cs vc (acc++yw++yg++yh) W7 from hX7);clear hX7 rB hk3 hk4 hk5;have Al:=aa (show(acc++yw++yg++yh).length=zi.length+yw.length+yg.length+yh.length by simp only[length_append,HLZ.ae]);obtain⟨Qd,afD⟩:∃Qd,Qd=acc++yw++yg++yh:=⟨_,rfl⟩;rw[<- afD] at Tm Al Cb;clear afD;have A4:cs[6]?=some (.slice L.o.A zo.length L.o.c):=by rw[NP.ae];rfl
     have HC6:=aa A4;clear A4 NP;simp only[Act.put,Uac];go_wp2_with fail;generalize wr=wy at*;go_loopw [3,8] (λ v iv wr=>∃(k:Nat),k<=zo.length/\iv=af k/\kx w gq cs v (Qd++(zo.take k).map (·.1)) wr) (λ _ iv _=>zo.length - (intOf iv).toNat);case atStart=>exact⟨0,Nat.zero_le _,rfl,by rw[take_zero,map_nil,append_nil];exact Tm.ae⟩
     case round=>
      clear Tm;obtain⟨k,hk,rfl,hx⟩:=hrel;have XN:=aa hx;have c6:=(hx.blk.cell 6).trans HC6.ae;have hk9:k<=1100000:=by have:=Q4.ae;omega
      clear hx;by_cases hkz:k < zo.length
      ·obtain⟨b,off,hA,kG,hex⟩:∃b off,L.o.A=some ⟨b,off,none⟩/\b < w.heap.size/\ck w b (off+k*8) zo[k].1:=by
        rcases IH.ae with h |⟨b,off,h1,h2,h3⟩
        ·rw[h] at hkz;simp at hkz
        ·exact Zhm
       have iE:=hex.keep (λ o=>XN.ae.low.cell (p:=⟨b,o,none⟩) kG);have oY:=aa (show Qd++(zo.take (k+1)).map (·.1)=Qd++(zo.take k).map (·.1)++ [zo[k].1] by rw[take_add_one,getElem?_eq_getElem hkz,map_append,append_assoc];rfl);have xp:(Qd++(zo.take k).map (·.1)).length<=2200000:=by have:=Al.ae;have:=Q4.ae;rw[length_append,length_map,length_take];omega
       generalize zo[k].1=y at*;generalize Qd++(zo.take k).map (·.1)=acc at*;unfold ck at iE;obtain⟨A3,c3,hv3,_⟩:=XN.ae.own.reads;subst hv3;rw[hA] at c6;clear hA;have bN:=ah wr (.cells (ay y) 46);have hG:=aB.new wr 46 (ay y);have kI:=aa (XN.ae.later bN);have HG:=aa hG;have hbase:=kI.ae.low.size;clear bN hG hex kG;go_wp2_with (first
        |(at_builtin
          refine aU (f:=bF) rfl (.tmp 78) (.tmp 85) 23 rfl _ 88 Tryz.underlying23 fL rfl Tq y rfl (by intro u hu;simp[bF] at hu;rcases hu with rfl | rfl | rfl | rfl | rfl | rfl | rfl <;> rfl) rfl kI.ae.own wr.heap.size rfl HG.ae Tq Tq hbase ?_
          intro v4 w4 o4 g4
          have O4:=aa (kx.mk o4 (kI.ae.blk.grown g4 (λ e=>kI.ae.own.other kI.ae.blk WC e.symm)) (Below.trans kI.ae.low (bj kI.ae.own g4 hbase)))
          clear o4 g4))
       exact ZfY
      ·have fJ:k=zo.length:=by omega
       subst fJ;rw[take_length] at XN;go_wp2_with fail;go_ret;exact⟨_,_,rfl,XN.ae.own,Cb.ae,XN.ae.low⟩
def Mn (w:World)(B:Nat)(A:Option Addr)(gs:List Nat):Prop:=gs=[]\/∃g,A=some ⟨g,0,none⟩/\g < B/\∀(i:Nat) q,gs[i]?=some q->w.cell? ⟨g,i,none⟩=some (aw q)
theorem Mn.later{A:Option Addr} (h:Mn w w.heap.size A l)(hb:aj w w'):Mn w' w'.heap.size A l:=by
 rcases h with h |⟨g,h1,h2,h3⟩
 ·exact .inl h
 ·exact .inr ⟨g,h1,Nat.lt_of_lt_of_le h2 hb.size,λ i x hx=>(hb.cell (p:=⟨g,i,none⟩) h2).trans (h3 i x hx)⟩
theorem Mn.at_{A:Option Addr} (h:Mn w B A l) {k:Nat}(hk:k < l.length):∃g,A=some ⟨g,0,none⟩/\g < B/\w.cell? ⟨g,k,none⟩=some (.pointer (some ⟨l[k],0,none⟩)):=by
 rcases h with h |⟨g,h1,h2,h3⟩
 ·subst h;simp at hk
 ·exact⟨g,h1,h2,h3 k l[k] (getElem?_eq_getElem hk)⟩
variable{gs:List Nat}
theorem wB(h:aH df e 1 w base v gs):∃A c,v=.slice A gs.length c/\gs.length<=c/\Mn w w.heap.size A gs:=by
 obtain⟨A0,c0,e0,_,hle,_⟩:=h.reads;obtain⟨A,c,rfl,h1⟩:=eh (f:=df) (size:=1) (λ _=>rfl) h;injection e0 with _ _ e0;refine⟨A,c,rfl,by rw[e0];exact hle,?_⟩;rcases h1 with h1 |⟨g,h1,h2,h3⟩
 ·exact .inl h1
 ·refine .inr ⟨g,h1,h2,λ i q hq=>?_⟩;have:=h3 i q 0 _ hq Tq rfl;exact ZeZ
theorem Qe (gg:Nat)(KA tA:Option Addr)(k t:List Val)(kc tc:Nat)(w:World)(hg:gg < w.heap.size)(hk:w.cell? ⟨gg,0,none⟩=some (.slice KA k.length kc))(hK:RV w w.heap.size KA k)(hT:RV w w.heap.size tA t)(hl:k.length<=1000)(ht:t.length<=1000):
  ar 65 #[aw gg,.slice tA t.length tc] w λ e w'=>e=.returned (af (cI k t))/\aj w w':=by have HR:=KV KA kc k tA tc t w hK hT hl ht;clear hK hT hl ht;go_enter Tryz.func65,Tryz.ntmps65;go_wp2_with fail;refine HR.mono ?_;rintro e w1 ⟨rfl,b1⟩;clear HR hk;go_wp2_with fail;go_ret;exact⟨rfl,b1⟩
def Cw (n:Nat)(c:Nat->Int)(w:World)(e:Ending)(w':World):Prop:=∃k:Nat,k<=n/\e=.returned (.tuple #[af k,.bool (decide (k < n)&& decide (c k=0))])/\(∀i,i < k->c i < 0)/\(∀i,k<=i->i < n->0<=c i)/\aj w w'
theorem zea.KaP(h:p:=by
 have Ez:m < gs.length:=by have:=HN.ae;omega
 obtain⟨g,rfl,hg,Kx⟩:=HA.ae.at_ Ez;have hz:=(hb.cell (p:=⟨g,m,none⟩) hg).trans Kx;have hex:=HE.ae m Ez _ hb;have HML:=aa Ez;generalize gs[m]=q at*;clear Kx hg Ez;go_wp2_with fail;refine hex.mono ?_;rintro e w1 ⟨rfl,b1⟩;have hb1:=ai.then hb b1;clear hex hz b1 hb;by_cases hc:c m < 0
 ·go_wp2_with fail;go_roundw;case rel=>exact⟨m+1,j,by omega,hj,by go_num,rfl,λ t ht=>HL.ae t m Tq HML.ae hc,HHI.ae,hb1⟩
  case measure=>exact Za2
 ·go_wp2_with fail;go_roundw;case rel=>exact⟨i,m,by omega,by omega,rfl,rfl,G6.ae,λ t h1 h2=>Int.not_lt.1 λ h=>absurd (HL.ae m t h1 Tbi h) Tq,hb1⟩
  case measure=>exact Za2):p:=h
theorem Qf (gs:List Nat)(SA tA:Option Addr)(sc tn tc:Nat)(c:Nat->Int)(w:World)(hn:gs.length<=1000000)(hA:Mn w w.heap.size SA gs)
  (hE:∀i (h:i < gs.length),∀W,aj w W->ar 65 #[.pointer (some ⟨gs[i],0,none⟩),.slice tA tn tc] W λ e w'=>e=.returned (af (c i))/\aj W w')
  (hm:∀i j,i<=j->j < gs.length->c j < 0->c i < 0):
  ar 64 #[.slice SA gs.length sc,.slice tA tn tc,.func (.func 65) #[] #[]] w (Cw gs.length c w):=by
 have HA:=aa hA;have HE:=aa hE;have HL:=aa hm;clear hA hE hm;obtain⟨n,ug⟩:∃n,n=gs.length:=⟨_,rfl⟩;have HN:=aa ug;rw[<- ug] at hn ⊢;clear ug;go_enter Tryz.func64,Tryz.ntmps64;go_wp2_with fail;go_loopw [9,10] (λ lo hi wr=>∃i j:Nat,i<=j/\j<=n/\lo=af i/\hi=af j/\(∀t,t < i->c t < 0)/\(∀t,j<=t->t < n->0<=c t)/\aj w wr) (λ lo hi _=>(intOf hi).toNat - (intOf lo).toNat);case atStart=>exact⟨0,n,Nat.zero_le _,Nat.le_refl _,rfl,rfl,λ t h=>by omega,λ t h1 h2=>by omega,Below.refl _ _⟩
 case round=>
  obtain⟨i,j,nP,hj,rfl,rfl,fI,hhi,hb⟩:=hrel;have G6:=aa fI;have HHI:=aa hhi;clear fI hhi;by_cases hlt:i < j
  ·go_upto_region 5 with fail;open zea in exact Zcj
  ·have G8:j=i:=by omega
   subst G8;by_cases zy:j < n
   ·have Ez:j < gs.length:=by have:=HN.ae;omega
    obtain⟨g,rfl,hg,Kx⟩:=HA.ae.at_ Ez;have hz:=(hb.cell (p:=⟨g,j,none⟩) hg).trans Kx;have hex:=HE.ae j Ez _ hb;generalize gs[j]=q at*;clear Kx hg Ez hlt;go_wp2_with fail;refine hex.mono ?_;rintro e w1 ⟨rfl,b1⟩;have hb1:=ai.then hb b1;clear hex hz b1 hb;by_cases hc:c j=0
    ·have t1:(c j==0)=true:=by simp[hc]
     go_wp2_with fail;exact bodyPost_ret (v:=.tuple #[af j,.bool true]) TaG rfl ⟨j,hj,by rw[decide_eq_true zy,decide_eq_true hc];rfl,G6.ae,HHI.ae,hb1⟩
    ·have t1:(c j==0)=false:=by simp[hc]
     go_wp2_with fail;exact bodyPost_ret (v:=.tuple #[af j,.bool false]) TaG rfl ⟨j,hj,by rw[decide_eq_true zy,decide_eq_false hc];rfl,G6.ae,HHI.ae,hb1⟩
   ·clear hlt;go_wp2_with fail;exact bodyPost_ret (v:=.tuple #[af j,.bool false]) TaG rfl ⟨j,hj,by rw[decide_eq_false zy];rfl,G6.ae,HHI.ae,hb⟩
structure pC (w w':World) (qs:List Nat):Prop where
 os:w'.os=w.os
 tape:w'.tape=w.tape
 output:w'.output=w.output
 size:w.heap.size<=w'.heap.size
 block:∀k,k < w.heap.size->k∉qs->w'.heap[k]?=w.heap[k]?
theorem pC.refl (w:World)(qs:List Nat):pC w w qs:=⟨rfl,rfl,rfl,Nat.le_refl _,λ _ _ _=>rfl⟩
theorem pC.below(h:pC w w1 qs)(hb:aj w1 w2):pC w w2 qs:=
 ⟨hb.os.trans h.os,hb.tape.trans h.tape,hb.output.trans h.output,Nat.le_trans h.size hb.size,λ k hk hn=>(hb.block k (Nat.lt_of_lt_of_le hk h.size)).trans (h.block k hk hn)⟩
theorem pC.grown(h:pC w w1 qs)(hq:q∈qs)(hb:w1.grownBy w2 (some q)):pC w w2 qs:=
 ⟨hb.os.trans h.os,hb.tape.trans h.tape,hb.output.trans h.output,Nat.le_trans h.size hb.size,λ k hk hn=>(hb.block k (Nat.lt_of_lt_of_le hk h.size) λ e=>by injection e with e;subst e;exact hn hq).trans (h.block k hk hn)⟩
theorem pC.blk{t:TypeId} (h:pC w w' qs)(hg:aB w g t cs)(hn:g∉qs):aB w' g t cs:=(h.block g hg.lt hn).trans hg
theorem pC.low(h:pC w w' qs)(hB:B<=w.heap.size)(hq:∀q∈qs,B<=q):Below B w w':=
 ⟨h.os,h.tape,h.output,h.size,λ k hk=>h.block k (Nat.lt_of_lt_of_le hk hB) λ hm=>by have:=hq k hm;omega⟩
structure RVq (w:World) (qs:List Nat) (A:Option Addr) (l:List Val):Prop where
 rv:RV w w.heap.size A l
 off:∀a,A=some a->a.block∉qs
theorem RVq.turn{A:Option Addr} {l:List Val}(h:RVq w qs A l)(ht:pC w w' qs):RV w' w'.heap.size A l:=by
 rcases h.rv with h0 |⟨b,off,rfl,hb,hc⟩
 ·exact .inl h0
 ·refine .inr ⟨b,off,rfl,Nat.lt_of_lt_of_le hb ht.size,λ i x hx=>(hc i x hx).keep λ o=>bH (ht.block b hb (h.off _ rfl)) o⟩
def eQ (A:Option Addr)(c n:Nat):Option Addr:=if c=n then A else A.map (·.add (n*3))
theorem RV.Tn{A:Option Addr} {l:List Val}(h:RV w B A l)(n c:Nat)(hc:l.length<=c):RV w B (eQ A c n) (l.drop n):=by
 unfold eQ;rcases h with h0 |⟨b,off,rfl,hb,hx⟩
 ·subst h0;exact .inl Vb
 ·split
  ·left;rw[drop_eq_nil_iff];omega
  ·refine .inr ⟨b,off+n*3,by simp[dC],hb,λ i x hi=>?_⟩;rw[getElem?_drop] at hi;have:=hx (n+i) x hi;rw[show off+n*3+i*3=off+(n+i)*3 by omega];exact this
theorem RV.G9{A:Option Addr} {l:List Val}(h:RV w B A l)(n:Nat):RV w B A (l.take n):=by
 rcases h with h0 |⟨b,off,rfl,hb,hx⟩
 ·subst h0;exact .inl Vb
 ·refine .inr ⟨b,off,rfl,hb,λ i x hi=>?_⟩;rw[getElem?_take] at hi;split at hi
  ·exact hx i x hi
  ·cases hi
theorem xW{A:Option Addr} {c:Nat}(h:∀a,A=some a->a.block∉qs):∀a,eQ A c n=some a->a.block∉qs:=by
 intro a ha;unfold eQ at ha;split at ha
 ·exact h a ha
 ·cases A with
  | none=>cases ha
  | some ad=>simp only[Option.map_some,Option.some.injEq] at ha;rw[<- ha,vp];exact h ad rfl
theorem Cx (u:World):(sizeOf (Tryz.prog.elem 38)).run Tryz.prog u=.ok 3 u:=by exact Zgu
theorem sP (a:Addr):a.add 0=a:=by obtain⟨b,o,s⟩:=a;unfold Addr.add;split <;> simp_all
theorem sQ (A1:Option Addr)(n c1 k:Nat)(hk:k<=n)(u:World):(Instr.slice 38 (.slice A1 n c1) (some (af k)) none none).run Tryz.prog u=.ok (.slice (eQ A1 c1 k) (n - k) (c1 - k)) u:=by unfold eQ;rw[run_slice_l u 38 A1 n c1 Tryz.underlying38 .i64 k Tq Tq,Cx];simp[sliced]
theorem VC (A1:Option Addr)(n c1 k:Nat)(hk:k<=c1)(u:World):(Instr.slice 38 (.slice A1 n c1) none (some (af k)) none).run Tryz.prog u=.ok (.slice A1 k c1) u:=by rw[run_slice_h u 38 A1 n c1 Tryz.underlying38 .i64 k Tq Tq,Cx];exact Zhf
theorem Gm (A1:Option Addr)(n c1 k m:Nat)(hk:k<=m)(hm:m<=c1)(u:World):(Instr.slice 38 (.slice A1 n c1) none (some (af k)) (some (af m))).run Tryz.prog u=.ok (.slice A1 k m) u:=by rw[run_slice_hm u 38 A1 n c1 Tryz.underlying38 .i64 .i64 k m Tq Tq Tq,Cx];exact Zhf
theorem EE (w:World)(ty:TypeId)(g:Nat)(t:TypeId)(cur:Array Value)(A:Option Addr)(l:List Val)(c dl dc:Nat)(hg:aB w g t cur)(pD:l.length*3<=cur.size)(hl:l.length<=dl)(hR:Reads w w.heap.size 3 A l.length (l.flatMap aV)):
  (Builtin.copy_ #[38,38] ty #[aI g dl dc,.slice A l.length c]).run Tryz.prog w=.ok (goInt l.length) (w.setRow g (l.flatMap aV++cur.toList.drop (l.length*3)).toArray):=by
 have hn:Nat.min l.length dl=l.length:=Nat.min_eq_left hl;have Ia:=KX l;have hst:=run_storeCells_at Tryz.prog g 0 t (l.flatMap aV) 0 cur w hg (by rw[Ia];simpa using pD) (val_one l);simp only[Nat.zero_add,take_zero,nil_append,Ia] at hst;have hsz:∀u:World,(sizeOf 44).run Tryz.prog u=.ok 3 u:=λ u=>by kernel_rfl
 cases A with
 | none=>
   have h0:l=[]:=by
    cases l with
    | nil=>rfl
    | cons x xs=>obtain⟨a,ha,_⟩:=hR.2 Vb;cases ha
   subst h0;simp[Builtin.copy_,run_underlying Tryz.underlying38,Builtin.lenOf,Builtin.firstCells,hsz,storeCells];rw[setRow_self w g cur t (0,0) hg]
 | some a=>
   have hld:=run_loadCells_list (P:=Tryz.prog) w a (l.flatMap aV) (by
    intro j v hj
    cases l with
    | nil=>simp at hj
    | cons x xs=>
      obtain⟨a2,ha,hb,hc⟩:=hR.2 Vb
      injection ha with ha
      subst ha
      exact hc j v hj)
   rw[Ia] at hld;simp[Builtin.copy_,run_underlying Tryz.underlying38,Builtin.lenOf,Builtin.firstCells,hsz,hn,hld,hst]
def ld (l:List Val):Val×Val:=(l.getD 0 aN,l.getD 1 aN)
variable{h:Nat}
theorem kQ{t u:TypeId} {ds:Array Value}(hg:aB w g t cs)(hh:aB w h u ds)(hn:t≠u):g≠h:=λ e=>by subst e;have h1:w.heap[g]?=some (.cells cs t (0,0)):=hg;have h2:w.heap[g]?=some (.cells ds u (0,0)):=hh;rw[h1] at h2;injection h2 with h2;injection h2 with _ h2 _;exact hn h2
def na:Array Value:= #[ag 0,af 0,au,ag 0,af 0,au]
def Cy (a b:Val):Array Value:= #[ag a.k,af a.n,.string a.s,ag b.k,af b.n,.string b.s]
theorem zZ{ops:Array Oper}     (hgd:o.guard=none)(d s:Operand)
  (ho:o.op=.call { callee:=.builtin .copy,args:= #[d,s],argTypes:= #[38,38] }) (g:Nat) (A:Option Addr) (l:List Val) (c dc n:Nat) (hd:a.eval d=aI g 2 dc) (hs:a.eval s=.slice A n c) (hn:n=l.length)
  (hg:aB w g 187 na) (hl:l.length<=2) (hR:RV w w.heap.size A l)
  (h:∀w' u,aB w' g 187 (Cy (ld l).1 (ld l).2)->w.grownBy w' (some g)->wpList Tryz.prog ops Q rest (a.put o.dst u) w'):wpList Tryz.prog ops Q (o::rest) a w:=by
 subst hn;refine wpList_plain hgd λ K hK=>?_
 have hrun:=EE w o.type g 187 na A l c 2 dc hg (by show l.length*3<=6;omega) hl hR.reads;unfold Oper.wp;simp[execOp,ho,resolve,invoke,builtin,hd,hs,hrun,Result.andThen];refine hK _ _ (h _ _ ?_ ⟨rfl,rfl,rfl,by simp[World.setRow],λ k hk hne=>setRow_other w g k _ (λ e=>hne Ta9)⟩);have:=setRow_heap w g na (l.flatMap aV++na.toList.drop (l.length*3)).toArray 187 (0,0) hg;refine Eq.trans this ?_
 match l,hl with
 | [],_=>rfl
 | [x],_=>rfl
 | [x,y],_=>rfl
def mm:List Nat->List Val->List (Val×Val)
 | [],_=> []
 | n::ns,l=>ld (l.take n)::mm ns (l.drop n)
def Mo:List Nat->Nat
 | []=>0
 | n::ns=>n+Mo ns
def eA (ss:List St)(ps:List (Val×Val)):List St:=List.zipWith (λ s p=>s.feed p.1 p.2) ss ps
theorem dG.put{k:Nat}   {s:St}(h:dG w B qs ss)(hq:qs[k]?=some q)(hg:w.grownBy w' (some q))(hs:cy w' q s):dG w' B qs (ss.set k s):=by
 have Ak:k < qs.length:=by
  rcases Nat.lt_or_ge k qs.length with h1 | h1
  ·exact h1
  ·rw[getElem?_eq_none h1] at hq;cases hq
 refine⟨by rw[length_set];exact h.len,λ i r t hr ht=>?_,λ r hr=>⟨(h.low r hr).1,Nat.lt_of_lt_of_le (h.low r hr).2 hg.size⟩,h.apart⟩;by_cases hik:i=k
 ·subst hik;rw[hq] at hr;injection hr with hr;rw[getElem?_set_self (by rw[<- h.len];exact Ak)] at ht;injection ht with ht;subst hr ht;exact hs
 ·rw[getElem?_set_ne (Ne.symm hik)] at ht
  have hne:q≠r:=λ e=>by
   subst e
   have rW:i < qs.length:=by
    rcases Nat.lt_or_ge i qs.length with h1 | h1
    ·exact h1
    ·rw[getElem?_eq_none h1] at hr;cases hr
   rw[getElem?_eq_getElem rW] at hr;rw[getElem?_eq_getElem Ak] at hq;injection hr with hr;injection hq with hq;rcases Nat.lt_or_ge i k with hlt | vr
   ·exact List.pairwise_iff_getElem.1 h.apart i k rW Ak hlt (hr.trans hq.symm)
   ·exact List.pairwise_iff_getElem.1 h.apart k i Ak rW Tq (hq.trans hr.symm)
  exact(hg.block r (h.low r (mem_of_getElem? hr)).2 (λ e=>by injection e with e;exact hne e.symm)).trans (h.at_ i r t hr ht)
theorem dG.tQ{t:TypeId} (h:dG w B qs ss)(hg:aB w g t cs)(ht:t≠199):g∉qs:=λ hm=>by obtain⟨i,hi,he⟩:=getElem_of_mem hm;have h1:=h.at_ i g (ss[i]' TaH) Taw (getElem?_eq_getElem _);unfold cy aB at h1;unfold aB at hg;rw[hg] at h1;injection h1 with h1;injection h1 with _ h1 _;exact ht h1
def d4V (g7 g8 m c1 n yc:Nat)(A1 yA:Option Addr):Nat->World->Value->Prop
 | 0,_,v=>v=aI g8 2 2
 | 1,_,v=>v=.slice A1 m c1
 | 2,_,v=>v=ba g7 6
 | 3,_,v=>v=.slice yA n yc
 | 4,_,v=>v=af n
 | 5,_,v=>v=.slice A1 n c1
 | _,_,_=>False
theorem VD (g7 g8 m c1 n yc:Nat)(A1 yA:Option Addr):∀i w w' v,d4V g7 g8 m c1 n yc A1 yA i w v->ai w w'->d4V g7 g8 m c1 n yc A1 yA i w' v:=by
 intro i w w' v h hl
 match i with
 | 0 | 1 | 2 | 3 | 4 | 5=>exact h
 | n+6=>exact h
def d6V (gg g8 sb sn sc k q:Nat)(a b:Val):Nat->World->Value->Prop
 | 0,_,v=>v=aw gg
 | 1,_,v=>v=aw gg
 | 2,_,v=>v=ba gg 1
 | 3,_,v=>v=aI sb sn sc
 | 4,_,v=>v=af k
 | 5,_,v=>v=ba sb k
 | 6,_,v=>v=aw q
 | 7,_,v=>v=aw g8
 | 8,_,v=>v=.agg (aD a)
 | 9,_,v=>v=ba g8 3
 | 10,_,v=>v=.agg (aD b)
 | _,_,_=>False
theorem VE (gg g8 sb sn sc k q:Nat)(a b:Val):∀i w w' v,d6V gg g8 sb sn sc k q a b i w v->ai w w'->d6V gg g8 sb sn sc k q a b i w' v:=by exact Zds
theorem zcP.Kaw(h:p:=by
 have ank:=aa (λ q hq=>(hS.low q hq).1);clear oa Yf hS KK hc fF aZ hv hF ih q1 q2 q3 q4 q5 Az D9 hz hcw ND;go_enter Tryz.func67,Tryz.ntmps67;go_wp2_with fail;clear TG;go_loopw [2,14] (λ v i wr=>∃(j:Nat) (A1:Option Addr) (c1:Nat) (rem:List Val),j<=ys.length/\i=af j/\v=.slice A1 rem.length c1/\RVq w qs A1 rem/\rem.length<=c1/\rem.length<=1000000/\(∀v∈rem,v.Ok)/\mm ((ys.map Ex.n).drop j) rem=ps.drop j/\Mo ((ys.map Ex.n).drop j)<=rem.length/\dG wr B qs ((eA ss ps).take j++ss.drop j)/\pC w wr qs) (λ _ i _=>ys.length - (intOf i).toNat);case atStart=>exact⟨0,A0,Ly,l,Nat.zero_le _,rfl,rfl,HR.ae,HC.ae,GX.ae,HV.ae,sR.ae,Qg.ae,HS0.ae,pC.refl _ _⟩
 case round=>
  clear HS0 sR Qg HR HC HV GX;obtain⟨j,A1,c1,rem,hk,rfl,rfl,KK,hc,ND,hv,oa,Yf,hS,hT⟩:=hrel;have HS:=aa hS;have HT:=aa hT;have HR:=aa KK;have HC:=aa hc;have HV:=aa hv;have sR:=aa oa;have Qg:=aa Yf;have GX:=aa ND;clear hS hT KK hc hv oa Yf ND;by_cases hlt:j < ys.length
  ·obtain⟨b,off,rfl,kG,hex⟩:=(HF.ae.below (HT.ae.low HJ.ae ank.ae)).at_ hlt;have fF:=HY2.ae ys[j] (getElem_mem hlt);have hdr:(ys.map Ex.n).drop j=ys[j].n::(ys.map Ex.n).drop (j+1):=by rw[drop_eq_getElem_cons Tak];simp
   rw[hdr] at sR Qg;have hp0:ps.drop j=ld (rem.take ys[j].n)::mm ((ys.map Ex.n).drop (j+1)) (rem.drop ys[j].n):=sR.ae.symm;have Ao:ps[j]?=some (ld (rem.take ys[j].n)):=by have h1:=congrArg (λ l=>l[0]?) hp0;simpa using h1
   have Gz:mm ((ys.map Ex.n).drop (j+1)) (rem.drop ys[j].n)=ps.drop (j+1):=by have h1:=congrArg List.tail hp0;rw[tail_drop] at h1;exact h1.symm
   have aud:ys[j].n+Mo ((ys.map Ex.n).drop (j+1))<=rem.length:=Qg.ae;have xX:j < qs.length:=by have:=Q5.ae;omega
   have pP:j < ss.length:=by have:=oC.ae;omega
   have aoN:=HS.ae.at_ j qs[j] ss[j] (getElem?_eq_getElem xX) (by
    rw[getElem?_append_right TaS,length_take]
    have hm:min j (eA ss ps).length=j:=by
     refine Nat.min_eq_left (Nat.le_of_lt ?_)
     unfold eA
     rw[length_zipWith]
     have hpl:j < ps.length:=by
      rcases Nat.lt_or_ge j ps.length with h | h
      ·exact h
      ·rw[getElem?_eq_none h] at Ao;cases Ao
     omega
    rw[hm,Nat.sub_self,getElem?_drop,Nat.add_zero,getElem?_eq_getElem pP])
   have aZ:=HG.ae ss[j] (getElem_mem pP)
   have NW:((eA ss ps).take j++ss.drop j).set j (ss[j].feed (ld (rem.take ys[j].n)).1 (ld (rem.take ys[j].n)).2)=(eA ss ps).take (j+1)++ss.drop (j+1):=by
    have hpl:j < ps.length:=by
     rcases Nat.lt_or_ge j ps.length with h | h
     ·exact h
     ·rw[getElem?_eq_none h] at Ao;cases Ao
    have Ia:j <(eA ss ps).length:=by unfold eA;rw[length_zipWith];omega
    have hfk:(eA ss ps)[j]'Ia=ss[j].feed (ld (rem.take ys[j].n)).1 (ld (rem.take ys[j].n)).2:=by
     have h1:(eA ss ps)[j]?=some (ss[j].feed (ld (rem.take ys[j].n)).1 (ld (rem.take ys[j].n)).2):=by unfold eA;rw[getElem?_zipWith,getElem?_eq_getElem pP,Ao]
     rw[getElem?_eq_getElem Ia] at h1;injection h1
    rw[take_add_one,getElem?_eq_getElem Ia,hfk];have td:((eA ss ps).take j).length=j:=by rw[length_take];omega
    rw[set_append_right _ _ Tq,td,Nat.sub_self,drop_eq_getElem_cons pP,set_cons_zero,append_assoc];rfl
   have kH:=getElem_mem xX;have hX:qs[j]?=some qs[j]:=getElem?_eq_getElem xX
   obtain⟨lb,hSA,hsb,hsc⟩:∃lb,SA=some ⟨lb,0,none⟩/\lb < w.heap.size/\w.cell? ⟨lb,j,none⟩=some (.pointer (some ⟨qs[j],0,none⟩)):=by
    rcases Q4.ae with h |⟨g,h1,h2,h3⟩
    ·rw[h] at xX;simp at xX
    ·refine⟨g,h1,h2,?_⟩;have:=h3 j qs[j] 0 _ hX Tq rfl;exact ZeZ
   subst hSA;have hsq:=λ h=>Q3.ae lb h rfl
   have hGw:=HT.ae.blk IH.ae HFN.ae;have hsw:wr.heap[lb]?=w.heap[lb]?:=HT.ae.block lb hsb hsq;have ft:=(bH hsw j).trans hsc;have hP:=Nat.lt_of_lt_of_le hsb HT.ae.size;have hRw:=HR.ae.turn HT.ae;have axP:=Q5.ae;generalize ys[j]=y at*;generalize qs[j]=q at*;generalize ss[j]=s at*;unfold ck at hex;have HNX:=aa (show Mo ((ys.map Ex.n).drop (j+1))<=(rem.drop y.n).length by rw[length_drop];omega);have hI0:y.n<=rem.length:=by omega
   have jN:=aa Gz;have HQN:=aa NW;have aiD:=aa kH;have HB:=aa hX;have Wc:=aa ft;have HP:=aa hP;have M7:=aa aoN;have Kh:=aa aZ;have HG0:=aa fF;have HI0:=aa hI0;have HHL:=aa xX;clear hdr sR Qg hp0 Ao Gz aud pP aoN aZ NW kH hX hsb hsc hsq hsw ft hP fF hI0 xX;go_upto_region 4 with fail;have k1:=aB.new wr 46 (ay y);have ME:=ah wr (.cells (ay y) 46);generalize hW1:wr.alloc (.cells (ay y) 46)=W1 at*;have HZ:=aB.new W1 187 na;have b2:=ah W1 (.cells na 187);unfold na at HZ b2;generalize hW2:W1.alloc _=W2 at*;have k1:=k1.later b2;have bb:=ai.then ME b2;obtain⟨g7,NQ⟩:∃g7,g7=wr.heap.size:=⟨_,rfl⟩;have hs1:W1.heap.size=g7+1:=by rw[<- hW1,World.size_alloc,NQ]
   rw[<- NQ] at k1 ⊢;rw[hs1] at HZ;obtain⟨g8,hg8⟩:∃g8,g8=g7+1:=⟨_,rfl⟩;rw[<- hg8] at HZ ⊢;have nJ:g7≠g8:=by omega
   have HT2:=aa (HT.ae.below bb);have XM:=aa (hRw.later bb);have HO:=aa (hGw.later bb);have MN:=aa (HS.ae.later bb);have ant:=aa (show cy W2 q s from aB.later M7.ae bb);have anu:=aa ((bb.cell (p:=⟨lb,j,none⟩) HP.ae).trans Wc.ae);have ahV:=aa (Nat.lt_of_lt_of_le HP.ae bb.size);have XO:=aa (show wr.heap.size<=g8 by omega);have HGS:=aa (show lb≠g8 by have:=HP.ae;omega);clear hGw hRw HS M7 Wc HP ME b2 bb hW1 hW2 hs1 NQ hg8 hex;obtain⟨m,hm⟩:∃m,m=rem.length:=⟨_,rfl⟩;rw[<- hm];have HM:=aa hm;have hYR:y.n<=m:=by rw[hm];exact HI0.ae
   have hC1:m<=c1:=by rw[hm];exact HC.ae
   clear hm;have HZH:=aa HZ;have M9:=aa k1;clear HZ k1;refine bB 6 (d4V g7 g8 m c1 y.n y.c A1 y.A) (VD _ _ _ _ _ _ _ _) T8 T8 T8 ?_ ?_
   ·simp only[take_succ_cons,take_zero];refine⟨Zab,Zab,Zab,?_,Zab,?_,trivial⟩
    ·intro ρ w3 hc hL hr;have h0:_=_:=hr.1;have c0:=(M9.ae.later hL).cell 6;exact ZaS
    ·intro ρ w3 hc hL hr;have h0:_=_:=hr.1;have h1:_=_:=hr.2.1;have hs:=VC A1 m c1 y.n Tq w3;exact ZcQ
   intro W3 hL;simp only[Uab];rintro _ rfl a1 - a2 - a3 - a4 - _ rfl;simp only[bD,Act.put,Uac];have Qh:=aa (show aB W3 g8 187 na from HZH.ae.later hL);have HR3:=aa (((XM.ae.later hL).G9 y.n));have HLT:=aa (show(rem.take y.n).length=y.n by rw[length_take];have:=HI0.ae;omega);have Mx:=aa (HO.ae.later hL);have Eg:=aa (M9.ae.later hL);have Cu:=aa (MN.ae.later hL);have anw:=aa (show cy W3 q s from aB.later ant.ae hL);have anx:=aa ((hL.cell (p:=⟨lb,j,none⟩) ahV.ae).trans anu.ae);have ahX:=aa (Nat.lt_of_lt_of_le ahV.ae hL.size);have HT3:=aa (HT2.ae.below hL);clear hL HZH M9 HO MN ant anu ahV HT2 XM;have fI:=λ u=>sQ A1 m c1 y.n hYR u
   refine zZ rfl (.tmp 19) (.tmp 24) rfl g8 A1 (rem.take y.n) c1 2 y.n rfl rfl HLT.ae.symm Qh.ae (by rw[HLT.ae];exact HG0.ae) HR3.ae ?_;intro W4 u4 hz4 hg4;have sO:=aa (Mx.ae.grown hg4 (λ e=>by injection e with e;exact kQ Mx.ae Qh.ae WC e));have hR:=Eg.ae.grown hg4 (λ e=>by injection e with e;exact nJ e);have z6:=hR.cell 6;simp only[Uaa] at z6;have IY:=aa (Cu.ae.tQ Qh.ae WC);have GZ:=aa (Cu.ae.keep hg4.size λ q hq=>hg4.block q (Cu.ae.low q hq).2 (λ e=>by injection e with e;subst e;exact IY.ae hq));have Oa:=aa (show cy W4 q s from aB.grown anw.ae hg4 (λ e=>by injection e with e;subst e;exact IY.ae aiD.ae));have MI:=aa ((bH (hg4.block lb ahX.ae (λ e=>by injection e with e;exact HGS.ae e)) j).trans anx.ae);have TJ:=aa (Nat.lt_of_lt_of_le ahX.ae hg4.size);have aug:=aa (show w.heap.size<=g8 from Nat.le_trans HT.ae.size XO.ae);have HT4:=aa (show pC w W4 qs from⟨hg4.os.trans HT3.ae.os,hg4.tape.trans HT3.ae.tape,hg4.output.trans HT3.ae.output,Nat.le_trans HT3.ae.size hg4.size,λ j hk hn=>(hg4.block j (Nat.lt_of_lt_of_le hk HT3.ae.size) (λ e=>by injection e with e;have:=aug.ae;omega)).trans (HT3.ae.block j hk hn)⟩);have XP:=aa hz4;clear hz4 hg4 Mx Eg Cu anw anx ahX HT3 Qh HR3 hR;go_wp2_with fail;have HK:=sO;have xN:=GZ;have HYB:=Oa;have tL:=MI;have WT:=TJ;have HX:=XP;have HT5:=HT4;have HAB:=aa (show(ld (rem.take y.n)).1.Ok/\(ld (rem.take y.n)).2.Ok by
    have aZ:∀LE,((rem.take y.n).getD LE aN).Ok:=λ LE=>by
     rw[getD_eq_getElem?_getD]
     cases hj:(rem.take y.n)[LE]? with
     | none=>exact dV
     | some v=>exact HV.ae v (mem_of_mem_take (mem_of_getElem? hj))
    exact⟨aZ 0,aZ 1⟩)
   obtain⟨a,ha⟩:∃a,a=(ld (rem.take y.n)).1:=⟨_,rfl⟩;obtain⟨b2,hb2⟩:∃b2,b2=(ld (rem.take y.n)).2:=⟨_,rfl⟩;rw[<- ha,<- hb2] at HAB HX HQN;clear sO GZ Oa MI TJ XP HT4 z6 ha hb2 fI;refine bB 11 (d6V gg g8 lb qs.length sc j q a b2) (VE _ _ _ _ _ _ _ _ _) T8 T8 T8 ?_ ?_
   ·simp only[take_succ_cons,take_zero];refine⟨Zab,Zab,Zab,?_,Zab,?_,ZfE,Zab,?_,?_,?_,trivial⟩
    ·intro ρ w3 hc hL hr;have h0:_=_:=hr.1;have c0:=(HK.ae.later hL).cell 1;exact ZaS
    ·intro ρ w3 hc hL hr;have h0:_=_:=hr.1;have h1:_=_:=hr.2.1;have Uv:=HHL.ae;exact aq (w':=w3) (by simp[go_sem,h0,h1,Uv,dC];done) ⟨ai.refl _,rfl⟩
    ·intro ρ w3 hc hL hr;have h0:_=_:=hr.1;have cK:=HX.ae.later hL;have y0:=cK.cell 0;have y1:=cK.cell 1;have y2:=cK.cell 2;exact ZfF
    ·intro ρ w3 hc hL hr;have h0:_=_:=hr.1;exact aq (w':=w3) (by simp[go_sem,h0,hc.const,dC];done) ⟨ai.refl _,rfl⟩
    ·intro ρ w3 hc hL hr;have h0:_=_:=hr.1;have cK:=HX.ae.later hL;have y0:=cK.cell 3;have y1:=cK.cell 4;have y2:=cK.cell 5;exact ZfF
   intro W5 hL;simp only[Uab];rintro a0 - a1 - a2 - a3 - a4 - a5 - _ rfl a7 - _ rfl a9 - _ rfl;simp only[bD,Act.put,Uac];have HS6:=aa (xN.ae.later hL);have anH:=aa (show cy W5 q s from aB.later HYB.ae hL);have xd:=aa (HT5.ae.below hL);clear hL HK xN HYB tL WT HX HT5;go_wp2_with fail;refine(Zd q s a b2 W5 anH.ae Kh.ae.1 Kh.ae.2 HAB.ae.1).mono ?_;rintro e w7 ⟨rfl,hst,NQ⟩;have HS7:=aa (HS6.ae.put HB.ae NQ hst);have HT7:=aa (xd.ae.grown aiD.ae NQ);clear hst NQ HS6 anH xd;go_wp2_with fail;go_roundw
   case rel=>
    refine⟨j+1,eQ A1 c1 y.n,c1 - y.n,rem.drop y.n,hlt,by go_num,?_,⟨?_,xW HR.ae.off⟩,?_,?_,?_,jN.ae,HNX.ae,?_,HT7.ae⟩
    ·rw[length_drop,<- HM.ae]
    ·exact HR.ae.rv.Tn y.n c1 (by have:=HC.ae;omega)
    ·rw[length_drop];have:=HC.ae;omega
    ·rw[length_drop];have:=GX.ae;omega
    ·exact λ v hv=>HV.ae v (mem_of_mem_drop hv)
    ·rw[<- HQN.ae];exact HS7.ae
   case measure=>exact Za2
  ·have fJ:j=ys.length:=by omega
   subst fJ;have Ia:(eA ss ps).length=ss.length:=by have h1:=PE.ae;have h2:=oC.ae;unfold eA;rw[length_zipWith];omega
   have hst:=HS.ae;rw[take_of_length_le (by rw[Ia];have:=oC.ae;omega),drop_eq_nil_of_le (by have:=oC.ae;omega),append_nil] at hst;have HST:=aa hst;clear hst Ia HS;go_wp2_with fail;go_end0;exact⟨rfl,HST.ae,HT.ae⟩):p:=h
theorem zg (gp gg B base:Nat)(ys:List Ex)(AA:Option Addr)(ac:Nat)(kv sv:Value)(qs:List Nat)(ss:List St)(l:List Val)(A0:Option Addr)(Ly:Nat)(w:World)
  (hn:ys.length<=1000000) (D9:gp < B) (hz:B<=w.heap.size) (TG:w.cell? ⟨gp,9,none⟩=some (.slice AA ys.length ac)) (hF:RE w B AA ys) (ih:aB w gg 141 #[kv,sv]) (q1:aH df 145 1 w base sv qs)
  (hS:dG w B qs ss) (q5:qs.length=ys.length) (KK:RVq w qs A0 l) (hc:l.length<=Ly) (Yf:Mo (ys.map Ex.n)<=l.length) (fF:∀y∈ys,y.n<=2) (aZ:∀s∈ss,s.Ok/\s.all < 4611686018427387904) (hv:∀v∈l,v.Ok) (ND:l.length<=1000000):
  ar 67 #[aw gp,aw gg,.slice A0 l.length Ly] w λ e w'=>e=.returned (.tuple #[])/\dG w' B qs (eA ss (mm (ys.map Ex.n) l))/\pC w w' qs:=by
 have q2:=hS.tQ ih WC;have q3:=hS.ne q1;have Az:ss.length=ys.length:=by rw[<- hS.len];exact q5
 obtain⟨SA,sc,rfl,q4⟩:=eh (f:=df) (size:=1) (λ _=>rfl) q1;have hcw:=ih.cell 1;obtain⟨ps,oa⟩:∃ps,ps=mm (ys.map Ex.n) l:=⟨_,rfl⟩;rw[<- oa];have PE:=aa (show ps.length=ys.length by
  have hp:∀(ns:List Nat) (l:List Val),(mm ns l).length=ns.length:=by
   intro ns
   induction ns with
   | nil=>intro l;rfl
   | cons n ns Lw=>intro l;show(mm ns (l.drop n)).length+1=_;rw[Lw];rfl
  rw[oa,hp,length_map])
 have sR:=aa (show mm ((ys.map Ex.n).drop 0) l=ps.drop 0 from oa.symm);have Qg:=aa (show Mo ((ys.map Ex.n).drop 0)<=l.length from Yf);have HS0:=aa (show dG w B qs ((eA ss ps).take 0++ss.drop 0)from hS);have Kx:=aa (show(eA ss ps).length<=ss.length by unfold eA;rw[length_zipWith];omega);have HR:=aa KK;have HC:=aa hc;have HY2:=aa fF;have HG:=aa aZ;have HV:=aa hv;open zcP in exact Zbd
theorem Cz:(Tryz.prog.info? 135).map (λ i=>(i.zero,i.size,i.bytes))=some (some (.pointer none),1,8):=by exact Zgu
theorem Mp (u:World):(sizeOf (Tryz.prog.elem 134)).run Tryz.prog u=.ok 1 u:=by exact Zgu
theorem iF (A1:Option Addr)(n c1 k:Nat)(hk:k<=n)(u:World):(Instr.slice 134 (.slice A1 n c1) (some (af k)) none none).run Tryz.prog u=.ok (.slice (if c1=k then A1 else A1.map (·.add (k*1))) (n - k) (c1 - k)) u:=by rw[run_slice_l u 134 A1 n c1 Tryz.underlying134 .i64 k Tq Tq,Mp];simp[sliced]
theorem CB (A1:Option Addr)(n c1 k:Nat)(hk:k<=c1)(u:World):(Instr.slice 134 (.slice A1 n c1) none (some (af k)) none).run Tryz.prog u=.ok (.slice A1 k c1) u:=by rw[run_slice_h u 134 A1 n c1 Tryz.underlying134 .i64 k Tq Tq,Mp];exact Zhf
theorem Mq (w:World)(ty:TypeId)(g q:Nat)(cur:Array Value)(a:Addr)(cs:List Value)(dl dc sl sc:Nat)(hg:aB w g 135 cur)(pD:q+cs.length<=cur.size)(hn:cs.length=Nat.min sl dl)
  (hs:∀(j:Nat) v,cs[j]?=some v->w.cell? (a.add j)=some v) (h1:∀v∈cs,v.oneCell'=true):
  (Builtin.copy_ #[134,134] ty #[.slice (some ⟨g,q,none⟩) dl dc,.slice (some a) sl sc]).run Tryz.prog w=.ok (goInt cs.length) (w.setRow g (cur.toList.take q++(cs++cur.toList.drop (q+cs.length))).toArray):=by
 have hst:=run_storeCells_at Tryz.prog g q 135 cs 0 cur w hg (by simpa using pD) h1;have hld:=run_loadCells_list (P:=Tryz.prog) w a cs hs;have hsz:∀u:World,(sizeOf 135).run Tryz.prog u=.ok 1 u:=λ u=>by kernel_rfl
 simp only[Nat.add_zero] at hst;simp[Builtin.copy_,run_underlying Tryz.underlying134,Builtin.lenOf,Builtin.firstCells,hsz,<- hn,hld,hst]
variable{ac:Act}
theorem jh{ops:Array Oper}     (hgd:o.guard=none)(d s:Operand)
  (ho:o.op=.call { callee:=.builtin .copy,args:= #[d,s],argTypes:= #[134,134] }) (g q:Nat) (cur:Array Value) (a:Addr) (cs:List Value) (dl dc sl sc:Nat) (hd:ac.eval d=.slice (some ⟨g,q,none⟩) dl dc) (hs:ac.eval s=.slice (some a) sl sc)
  (hg:aB w g 135 cur) (pD:q+cs.length<=cur.size) (hn:cs.length=Nat.min sl dl) (auh:∀(j:Nat) v,cs[j]?=some v->w.cell? (a.add j)=some v) (h1:∀v∈cs,v.oneCell'=true)
  (h:∀w' u,aB w' g 135 (cur.toList.take q++(cs++cur.toList.drop (q+cs.length))).toArray->w.grownBy w' (some g)->wpList Tryz.prog ops Q rest (ac.put o.dst u) w'):wpList Tryz.prog ops Q (o::rest) ac w:=by
 refine wpList_plain hgd λ K hK=>?_
 have hrun:=Mq w o.type g q cur a cs dl dc sl sc hg pD hn auh h1;unfold Oper.wp;simp[execOp,ho,resolve,invoke,builtin,hd,hs,hrun,Result.andThen];exact hK _ _ (h _ _ (setRow_heap w g cur _ 135 (0,0) hg) ⟨rfl,rfl,rfl,by simp[World.setRow],λ k hk hne=>setRow_other w g k _ (λ e=>hne Ta9)⟩)
theorem fC (A:Option Addr)(n c:Nat):(Value.slice A n c).ownBlock=A.map (·.block):=by cases A <;> rfl
def eT (q:Nat):Value:=aw q
theorem rE (l:List Nat):l.flatMap df=l.map eT:=by
 induction l with
 | nil=>rfl
 | cons x l ih=>rw[flatMap_cons,ih];rfl
theorem AE (l:List Nat):∀v∈l.map eT,v.oneCell'=true:=by intro v hv;obtain⟨x,_,rfl⟩:=List.mem_map.1 hv;simp[eT,Value.oneCell']
def AG (lv:Value)(base:Nat)(l:List Nat)(w:World)(e:Ending)(w':World):Prop:=∃v',e=.returned v'/\aH df 135 1 w' base v' l/\w.grownBy w' lv.ownBlock
theorem Qi (gs:List Nat)(x:Nat)(lv:Value)(base vb:Nat)(w:World)(hl:gs.length<=1000000)(hO:aH df 135 1 w base lv gs)(hv:aB w vb 135 #[aw x])(hbase:base<=w.heap.size):
  ar 66 #[lv,af gs.length,aI vb 1 1] w (AG lv base (gs++ [x]) w):=by
 obtain⟨LA,lc,rfl,hle,_⟩:=wB hO;have HV:=aa hv;obtain⟨n,ug⟩:∃n,n=gs.length:=⟨_,rfl⟩;have HN:=aa ug;have hl2:n<=1000000:=by omega
 rw[<- ug] at hle hO ⊢;have HO:=aa hO;have fI:=λ u=>iF LA n lc n (Nat.le_refl _) u
 clear hO hv ug hl;go_enter Tryz.func66,Tryz.ntmps66;go_wp2_with (first
  |(at_builtin
    refine aU (l:=gs) rfl (.tmp 23) (.tmp 24) 134 rfl _ 8 Tryz.underlying134 Cz rfl Tq x rfl TaU rfl HO.ae vb rfl HV.ae Tbi Tbi hbase ?_
    intro v4 w4 U6 g4
    obtain⟨A4,QB,hv4,_⟩:=U6.reads
    rw[length_append,length_singleton] at hv4
    subst hv4
    have O4:=aa U6
    have G4:=aa (show w.grownBy w4 (Value.slice LA n lc).ownBlock from g4)
    clear U6 g4))
 all_goals
  go_ret;refine⟨_,rfl,O4.ae,?_⟩;have h4:=G4.ae;rw[fC] at h4 ⊢;exact h4
def aia (g n cap k:Nat):Nat->World->Value->Prop
 | 0,_,v=>v=aI g (n+1) cap
 | 1,_,v=>v=af k
 | 2,_,v=>v=af 1
 | 3,_,v=>v=af (k+1)
 | 4,_,v=>v=.slice (some ⟨g,k+1,none⟩) (n+1 - (k+1)) (cap - (k+1))
 | 5,_,v=>v=aI g (n+1) cap
 | 6,_,v=>v=af k
 | 7,_,v=>v=.slice (some ⟨g,k,none⟩) (n+1 - k) (cap - k)
 | _,_,_=>False
theorem Qj (g n cap k:Nat):∀i w w' v,aia g n cap k i w v->ai w w'->aia g n cap k i w' v:=by exact Zgf
theorem zg2.KbS(h:p:=by
 have uZ:=aa (HG.ae.later hL);have HV3:=aa (HV.ae.later hL);have HL:=aa hL;clear hL HG HV;have hg:((gs.drop k).map eT).length=n - k:=by rw[length_map,length_drop,<- HN.ae]
 have hcell:∀(j:Nat) v,((gs.drop k).map eT)[j]?=some v->W3.cell? ((⟨g,k,none⟩:Addr).add j)=some v:=λ j v hj=>by
  rw[PZ,uZ.ae.cell];rw[<- Array.getElem?_toList];have e:(cur.toList.take n)[k+j]?=some v:=by rw[HF.ae];rw[getElem?_map,getElem?_drop,<- getElem?_map] at hj;exact hj
  rw[getElem?_take] at e;split at e
  ·exact e
  ·cases e
 have NP:=aa hcell;have NJ:=aa hg;clear hcell hg;refine jh rfl (.tmp 73) (.tmp 76) rfl g (k+1) cur ⟨g,k,none⟩ ((gs.drop k).map eT) _ _ _ _ rfl rfl uZ.ae (by rw[NJ.ae,Q1.ae];omega) (by rw[NJ.ae];simp only[Nat.min_def];split <;> omega) NP.ae (AE _) ?_;intro W4 u4 hg4 VH;have Kg:=aa hg4;have HV4:=aa (HV3.ae.grown VH (λ e=>by injection e with e;exact HFN.ae e.symm));have aic:=aa (show w.grownBy W4 (some g)from aY (aR HL.ae) VH);clear hg4 VH uZ HV3 HL NP;obtain⟨c4,hc4⟩:∃c4:Array Value,c4=(cur.toList.take (k+1)++((gs.drop k).map eT++cur.toList.drop (k+1+((gs.drop k).map eT).length))).toArray:=⟨_,rfl⟩;rw[<- hc4] at Kg;have HC4:=aa hc4;clear hc4;have hs4:c4.size=cap:=by rw[HC4.ae];have h1:=NJ.ae;have h2:=Q1.ae;simp only[size_toArray,length_append,length_take,length_drop,Array.length_toList] at h1 ⊢;rw[length_map,length_drop] at h1 ⊢;omega
 have HS4:=aa hs4;have Sj:∀(j:Nat) v,[eT x][j]?=some v->W4.cell? ((⟨vb,0,none⟩:Addr).add j)=some v:=λ j v hj=>by rw[PZ,Nat.zero_add,HV4.ae.cell];simpa [eT] using hj
 have HCX:=aa Sj;clear hs4 Sj;go_wp2_with (first
  |(refine jh rfl (.tmp 80) (.tmp 81) rfl g k c4 ⟨vb,0,none⟩ [eT x] _ _ _ _ rfl rfl Kg.ae (by rw[HS4.ae,length_singleton];omega) TaN HCX.ae (AE [x]) ?_
    intro W5 u5 Jm anJ
    have VF:=aa Jm
    have aui:=aa (aY aic.ae anJ)
    clear Jm anJ))
 go_ret;refine⟨_,rfl,⟨?_,.inr ⟨g,cap,_,?_,hbg,VF.ae,?_,IH.ae,?_,?_⟩⟩,aui.ae⟩
 ·have:=HN.ae;simp[rE,df]
 ·have:=HN.ae;congr 1;simp;omega
 ·have:=HN.ae;simp;omega
 ·have:=HS4.ae;simp;omega
 ·have h3:=HF.ae;have h4:=HC4.ae;have h5:=HN.ae;have h6:=Q1.ae;obtain⟨R,hR⟩:∃R,R=cur.toList.drop (k+1+((gs.drop k).map eT).length):=⟨_,rfl⟩;rw[<- hR] at h4;have bU:cur.toList.length=cap:=by rw[Array.length_toList];exact h6
  have e0:cur.toList.take k=(gs.take k).map eT:=by have:=congrArg (List.take k) h3;rw[take_take,Nat.min_eq_left Tq,<- map_take] at this;exact this
  have Ec:(cur.toList.take (k+1)).length=k+1:=by rw[length_take];omega
  have e1:c4.toList.take k=(gs.take k).map eT:=by rw[h4,toList_toArray,take_append_of_le_length Tq,take_take,Nat.min_eq_left Tq,e0]
  have e2:c4.toList.drop (k+1)=(gs.drop k).map eT++R:=by rw[h4,toList_toArray,drop_append_of_le_length Tq,drop_of_length_le Tq,nil_append]
  rw[rE,toList_toArray,e1,length_singleton,e2,Nat.mul_one];have e3:(gs.take k).map eT++([eT x]++((gs.drop k).map eT++R))=(gs.take k++x::gs.drop k).map eT++R:=by simp
  exact ZgA):p:=h
theorem Mr (gs:List Nat)(x k:Nat)(g cap base vb:Nat)(cur:Array Value)(w:World)(hl:gs.length<=1000000)(hk:k < gs.length)(hbg:base<=g)(aZ:aB w g 135 cur)(hroom:gs.length+1<=cap)(ih:cap<=maxLen)(q1:cur.size=cap)(hF:cur.toList.take gs.length=gs.map eT)(hv:aB w vb 135 #[aw x])(q2:g≠vb):
  ar 66 #[aI g gs.length cap,af k,aI vb 1 1] w (AG (aI g gs.length cap) base (gs.take k++x::gs.drop k) w):=by
 obtain⟨n,ug⟩:∃n,n=gs.length:=⟨_,rfl⟩;have HN:=aa ug;rw[<- ug] at hl hk hroom hF ⊢;have hmx:cap<=9223372036854775807:=by unfold maxLen at ih;omega
 have LD:∀lb cb,(callFunc 101 #[aI vb 1 1,.slice (some ⟨g,k+1,none⟩) lb cb]).run Tryz.prog w=.ok (.value (.bool false)) w:=λ lb cb=>by
  rw[run_callFunc_extern Tryz.func101 T8 T8 T8 (e:=Extern.SlicesOverlaps.overlaps #[134,134] #[4]) T8,
   Lib.run_overlaps_apart w 134 4 135 Tryz.underlying134 1 (λ u=>by kernel_rfl) ⟨vb,0,none⟩ ⟨g,k+1,none⟩ 1 1 lb cb (Ne.symm q2) 135 135 1 cap (by unfold World.shape?;dsimp only;rw[show w.heap[vb]?=some (.cells #[aw x] 135 (0,0))from hv];rfl) (by unfold World.shape?;dsimp only;rw[show w.heap[g]?=some (.cells cur 135 (0,0))from aZ,<- q1]) Tq (hv.frozen 0) (hv.frozen 1)]
  rfl
 have VG:=λ u=>iF (some ⟨g,0,none⟩) n cap k Tq u
 have anI:=λ u=>CB (some ⟨g,0,none⟩) n cap (n+1) hroom u
 have EF:=λ u=>iF (some ⟨g,0,none⟩) (n+1) cap (k+1) Tq u
 have Qk:=λ u=>iF (some ⟨g,0,none⟩) (n+1) cap k Tq u
 rw[if_neg Tq] at VG EF Qk;simp only[Option.map_some,dC,Nat.mul_one,Nat.zero_add] at VG EF Qk;push_cast at anI EF;have mixed:Tryz.prog.follows .mixedOrders=true:=by kernel_rfl
 have t1:((k:Int)==(n:Int))=false:=by simp;omega
 have t2:decide ((cap:Int)<(n:Int)+1)=false:=decide_eq_false Tq;have HG:=aa aZ;have HV:=aa hv;have HF:=aa hF;have IH:=aa ih;have Q1:=aa q1;have HFN:=aa q2;have HOV:=LD;clear aZ hv hF ih q1 q2 ug LD;go_enter Tryz.func66,Tryz.ntmps66;go_wp2_with (simp only[HOV]);refine bB 8 (aia g n cap k) (Qj _ _ _ _) T8 T8 T8 ?_ ?_
 ·exact Zbn
 open zg2 in exact ZeS
theorem VI (d:Bool):Good (Zt d):=by
 cases d
 ·exact jH
 ·exact jH.flip
theorem CC:∀ds,Good (vO ds)
 | []=>⟨λ _ _=>rfl,λ _ _ _ _ _=>Int.le_refl _⟩
 | d::ds=>((VI d).by_ λ l:List Val=>l.headD aN).lex ((CC ds).by_ List.tail)
theorem mn (ds:List Bool):Good (BO ds):=((CC ds).by_ eG.keys).lex (iP.by_ eG.row)
variable{ds:List Bool}
theorem CD{a b:eG}(h:BO ds a b=0):a.row=b.row:=by
 unfold BO nQ at h;split at h
 ·exact gD _ _ h
 ·rename_i h2;exact absurd h h2
variable{op:Int}{m:List (Val×Val)}
theorem Ep.perm{s:St} {l:List (Val×Val)}(h:Ep op s l)(p:l.Perm m):Ep op s m:=by
 have hc:∀ {l m:List (Val×Val)},l.Perm m->cnt op l=cnt op m:=by
  intro l m p
  induction p with
  | nil=>rfl
  | cons x _ ih=>simp only[cnt,ih]
  | swap x y l=>simp only[cnt];omega
  | trans _ _ a b=>exact a.trans b
 have ht:∀ {l m:List (Val×Val)},l.Perm m->xu op l=xu op m:=by
  intro l m p
  induction p with
  | nil=>rfl
  | cons x _ ih=>simp only[xu,ih]
  | swap x y l=>simp only[xu];omega
  | trans _ _ a b=>exact a.trans b
 refine⟨h.kind,by rw[h.all,p.length_eq],by rw[h.count,hc p],by rw[h.sum,ht p],h.abW.iff λ y=>?_⟩;unfold keys;exact⟨λ⟨x,hx,he⟩=>⟨x,p.mem_iff.2 hx,he⟩,λ⟨x,hx,he⟩=>⟨x,p.mem_iff.1 hx,he⟩⟩
theorem H7(h:isAgg op=true) {l:List (Val×Val)}(p:l.Perm m):jt op l=jt op m:=by
 have h':21<=op/\op<=28:=by simpa [isAgg] using h
 exact((sx h'.1 h'.2 l).perm p).same (sx h'.1 h'.2 m)
variable{cols:List aX}{r s:List (List Val)}
theorem VJ{l:List Tr} (p:r.Perm s):(cE cols l r).1.Perm (cE cols l s).1/\(cE cols l r).2=(cE cols l s).2:=
 ⟨p.filter _,yP (p.map _)⟩
def H8(x y:Except Int (List α)):Prop:=match x,y with
 | .error a,.error b=>a=b
 | .ok l,.ok m=>l.Perm m
 | _,_=>False
theorem Ms{l m:List (Except Int α)}(p:l.Perm m):H8 (uh l) (uh m):=by
 unfold uh;rw[yP (p.map _)];split
 ·exact rfl
 ·exact p.filterMap _
variable{k:List Val}
theorem VK{l m:List (List Val×List (Val×Val))}(p:l.Perm m):(nV i l k).Perm (nV i m k):=(p.filter _).map _
variable{ops:List Int}
theorem Jn(h:∀op∈ops,isAgg op=true) {l m:List (List Val×List (Val×Val))}(p:l.Perm m)(k:List Val):cY ops l k=cY ops m k:=by
 unfold cY;refine map_congr_left λ i hi=>?_
 have hi:i < ops.length:=List.mem_range.1 hi;have hm:ops.getD i 0∈ops:=by rw[getD_eq_getElem?_getD,getElem?_eq_getElem hi];exact getElem_mem hi
 rw[H7 (h _ hm) (VK p)]
variable{ng:Nat}{aF:List Tr}
theorem Mt(h:∀t∈aF,isAgg t.op=true) {l m:List (List Val)}(p:l.Perm m):fK ng aF l=fK ng aF m:=by
 have jC:∀op∈aF.map Tr.op,isAgg op=true:=λ op ho=>by obtain⟨t,ht,rfl⟩:=List.mem_map.1 ho;exact h t ht
 have hp:=p.map λ r=>(r.take ng,fw aF (r.drop ng))
 have hk:gK ((l.map λ r=>(r.take ng,fw aF (r.drop ng))).map (·.1))=gK ((m.map λ r=>(r.take ng,fw aF (r.drop ng))).map (·.1)):=
  OZ iP gD λ y=>(hp.map _).mem_iff
 unfold fK;simp only[hk,Jn jC hp]
theorem VL{l m:List eG}(p:l.Perm m):(kZ ds l).map eG.row=(kZ ds m).map eG.row:=
 Pb (mn ds) eG.row (λ _ _=>CD) p
theorem Ql{p:iX}  (h:r.Perm s):H8 (nC p cols r) (nC p cols s):=Ms (h.map _)
theorem VM{q:Qy} {p:iX} (ha:∀t∈p.st.aF,isAgg t.op=true) (h:r.Perm s):H8 (nX q p cols r) (nX q p cols s):=by
 obtain⟨h1,Kx⟩:=VJ (cols:=cols) (l:=q.cC) h;unfold nX;rw[Kx];split
 ·exact rfl
 split
 ·exact h1
 have h2:=Ms (h1.map λ r=>bu cols r (q.aL++p.st.aF.flatMap Tr.args));generalize uh ((cE cols q.cC r).1.map λ r=>bu cols r (q.aL++p.st.aF.flatMap Tr.args))=x at*;generalize uh ((cE cols q.cC s).1.map λ r=>bu cols r (q.aL++p.st.aF.flatMap Tr.args))=y at*
 cases x with
 | error a=>cases y with
   | error b=>exact h2
   | ok m=>exact h2.elim
 | ok l=>cases y with
   | error b=>exact h2.elim
   | ok m=>
     dsimp only;rw[Mt ha h2];cases fK q.aL.length p.st.aF m with
     | error e=>exact rfl
     | ok gs=>
       dsimp only;split
       ·exact rfl
       ·exact .refl _
def jO (s:dz):Prop:=∀a∈s.aF,isAgg a.op=true
mutual
theorem Tr.Gn (aL:List Tr)(cols:List aX):∀(t:Tr) (s:dz) (y:Tr) (s':dz),t.turn aL cols s=.ok (y,s')->jO s->jO s'
 | .mk op v name width args,s,y,s',h,hs=>by
   unfold Tr.turn at h;split at h
   ·injection h with h;injection h with h1 h2;rw[<- h2];exact hs
   ·split at h
    ·rename_i hop;split at h
     ·cases h
     ·injection h with h;injection h with h1 h2;rw[<- h2];intro a ha;rcases List.mem_append.1 ha with ha | ha
      ·exact hs a ha
      ·rw[mem_singleton] at ha;rw[ha];exact hop
    ·split at h
     ·cases h
     ·rename_i ys s1 h1;split at h
      ·cases h
      ·split at h
       ·cases h
       ·injection h with h;injection h with h3 h4;rw[<- h4];exact Tr.CE aL cols args s ys s1 h1 hs
theorem Tr.CE (aL:List Tr)(cols:List aX):∀(ts:List Tr) (s:dz) (ys:List Tr) (s':dz),Tr.turns aL cols ts s=.ok (ys,s')->jO s->jO s'
 | [],s,ys,s',h,hs=>by unfold Tr.turns at h;injection h with h;injection h with h1 h2;rw[<- h2];exact hs
 | t::ts,s,ys,s',h,hs=>by
   unfold Tr.turns at h;split at h
   ·cases h
   ·rename_i y s1 h1;split at h
    ·cases h
    ·rename_i XQ s2 h2;injection h with h;injection h with h3 h4;rw[<- h4];exact Tr.CE aL cols ts s1 XQ s2 h2 (Tr.Gn aL cols t s y s1 h1 hs)
end
variable{aL:List Tr}{s':dz}
theorem CF{g:Bool}    {s:dz} {y:Tr} {k:Int} (h:oZ g aL cols t s=.ok (y,k,s'))(hs:jO s):jO s':=by
 unfold oZ at h;split at h
 ·exact ZfD
 ·split at h
  ·cases h
  ·rename_i y1 s1 h1;split at h
   ·cases h
   ·injection h with h;injection h with h2 h;injection h with h3 h4;rw[<- h4];exact Tr.Gn aL cols t s y1 s1 h1 hs
theorem CG{g:Bool}  :∀ {l:List (Tr×ByteArray)} {s:dz} {ys:List Tr} {hd:List aX} {s':dz},dp g aL cols l s=.ok (ys,hd,s')->jO s->jO s'
 | [],s,ys,hd,s',h,hs=>by unfold dp at h;injection h with h;injection h with h1 h;injection h with h2 h3;rw[<- h3];exact hs
 |(t,nm)::l,s,ys,hd,s',h,hs=>by
  unfold dp at h;split at h
  ·cases h
  ·rename_i y k s1 h1;split at h
   ·cases h
   ·rename_i XQ Tp s2 h2;injection h with h;injection h with h3 h;injection h with h4 h5;rw[<- h5];exact CG h2 (CF h1 hs)
theorem zh{g:Bool}  :∀ {l:List Tr} {s:dz} {ys:List Tr} {s':dz},dA g aL cols l s=.ok (ys,s')->jO s->jO s'
 | [],s,ys,s',h,hs=>by unfold dA at h;injection h with h;injection h with h1 h2;rw[<- h2];exact hs
 | t::l,s,ys,s',h,hs=>by
   unfold dA at h;split at h
   ·cases h
   ·rename_i y k s1 h1;split at h
    ·cases h
    split at h
    ·cases h
    ·rename_i XQ s2 h2;injection h with h;injection h with h3 h4;rw[<- h4];exact zh h2 (CF h1 hs)
theorem CH{g:Bool}  :∀ {l:List (Tr×Bool)} {s:dz} {ys:List Tr} {s':dz},ep g aL cols l s=.ok (ys,s')->jO s->jO s'
 | [],s,ys,s',h,hs=>by unfold ep at h;injection h with h;injection h with h1 h2;rw[<- h2];exact hs
 |(t,d)::l,s,ys,s',h,hs=>by
  unfold ep at h;split at h
  ·cases h
  ·rename_i y k s1 h1;split at h
   ·cases h
   ·rename_i XQ s2 h2;injection h with h;injection h with h3 h4;rw[<- h4];exact CH h2 (CF h1 hs)
theorem zfP.Kbs(h:p:=by exact CH h3 (zh h2 (CG h1 (λ a ha=>by cases ha)))):p:=h
theorem Gp{q:Qy}  {p:iX}(h:et q cols=.ok p):jO p.st:=by
 open zfP in exact ZdZ
theorem I0{q:Qy}  (h:r.Perm s):lx q cols r=lx q cols s:=by
 unfold lx
 cases hp:et q cols with
 | error e=>rfl
 | ok p=>
   dsimp only;have h1:r.any (λ r=> !iR cols r)=s.any (λ r=> !iR cols r):=by rw[Bool.eq_iff_iff,any_eq_true,any_eq_true];exact⟨λ⟨x,hx,he⟩=>⟨x,h.mem_iff.1 hx,he⟩,λ⟨x,hx,he⟩=>⟨x,h.mem_iff.2 hx,he⟩⟩
   rw[h1];split
   ·rfl
   have h2:=VM (q:=q) (cols:=cols) (Gp hp) h;generalize nX q p cols r=x at*;generalize nX q p cols s=y at*
   cases x with
   | error a=>cases y with
     | error b=>show Except.error a=Except.error b;rw[show a=b from h2]
     | ok m=>exact h2.elim
   | ok l=>cases y with
     | error b=>exact h2.elim
     | ok m=>
       dsimp only;have h3:=Ql (p:=p) (cols:=cols) (show l.Perm m from h2);generalize nC p cols l=x at*;generalize nC p cols m=y at*;cases x with
       | error a=>cases y with
         | error b=>show Except.error a=Except.error b;rw[show a=b from h3]
         | ok m=>exact h3.elim
       | ok l2=>cases y with
         | error b=>exact h3.elim
         | ok m2=>
           dsimp only;have h4:=VL (ds:=q.ord.map λ o:Tr×Bool=>o.2) (show l2.Perm m2 from h3);cases q.lim with
           | nil=>dsimp only;rw[h4]
           | cons n _=>dsimp only;rw[map_take,map_take,h4]
theorem CI{c:α->α->Int} {k:α}:∀ {l:List α} {j:Nat} {x:α},(∀i y,i < j->l[i]?=some y->c y k < 0)->l[j]?=some x->c x k=0->iB c k l=l
 | [],j,x,_,h,_=>by simp at h
 | y::l,0,x,_,h,h0=>by simp at h;subst h;unfold iB;rw[if_neg Tq,if_pos h0]
 | y::l,j+1,x,hl,h,h0=>by unfold iB;rw[if_pos (hl 0 y Tq rfl),CI (j:=j) (λ i z hi hz=>hl (i+1) z Tq Ta0) Tah h0]
theorem Mu{c:α->α->Int} {k:α}:∀ {l:List α} {j:Nat},j<=l.length->(∀i y,i < j->l[i]?=some y->c y k < 0)->(∀y,l[j]?=some y->0 < c y k)->iB c k l=l.take j++k::l.drop j
 | [],j,hj,_,_=>by simp at hj;subst hj;rfl
 | y::l,0,_,_,h=>by have h0:=h y rfl;unfold iB;rw[if_neg Tq,if_neg Tq];rfl
 | y::l,j+1,hj,hl,h=>by unfold iB;rw[if_pos (hl 0 y Tq rfl),Mu (j:=j) (by simpa using hj) (λ i z hi hz=>hl (i+1) z Tq Ta0) (λ z hz=>h z Ta0)];rfl
theorem CJ (l:List (List Val))(k:List Val):gK (l++ [k])=iB cI k (gK l):=by unfold gK tO;rw[foldl_append];rfl
def fl (ng:Nat)(l:List (List Val)):List (List Val):=if ng=0 then [[]] else gK l
theorem I1 (ng:Nat)(l:List (List Val)):(fl ng l).Pairwise (λ a b=>cI a b < 0):=by
 unfold fl;split
 ·simp
 ·exact(ko iP gD l).1
theorem xY (ng:Nat)(l:List (List Val)):(fl ng l).length<=l.length+1:=by
 unfold fl;split
 ·simp
 ·have:∀(l:List (List Val)),(gK l).length<=l.length:=by
   intro l
   have hk:∀(k:List Val) (m:List (List Val)),(iB cI k m).length<=m.length+1:=by
    intro k m
    induction m with
    | nil=>simp[iB]
    | cons x m ih=>
      unfold iB;split
      ·simp;omega
      ·split <;> simp
   suffices h:∀(l s:List (List Val)),(l.foldl (λ ks k=>iB cI k ks) s).length<=l.length+s.length by
    have:=h l [];simpa [gK,tO] using this
   intro l
   induction l with
   | nil=>intro s;simp
   | cons x l ih=>intro s;rw[foldl_cons];have h1:=ih (iB cI x s);have h2:=hk x s;simp only[length_cons];omega
  have:=this l;omega
def dS (ops:List Int)(ps:List (List Val×List (Val×Val)))(k:List Val):List St:=(List.range ops.length).map λ i=>jt (ops.getD i 0) (nV i ps k)
theorem ji (ops:List Int)(ps:List (List Val×List (Val×Val)))(k:List Val):cY ops ps k=(dS ops ps k).map gF:=by unfold cY dS;rw[map_map];rfl
theorem nc (ops:List Int)(ps:List (List Val×List (Val×Val)))(k:List Val):(dS ops ps k).length=ops.length:=by simp[dS]
variable{ps:List (List Val×List (Val×Val))}{k':List Val}{pr:List (Val×Val)}
theorem Qm(h:cI k k'≠0):nV i (ps++ [(k,pr)]) k'=nV i ps k':=by unfold nV;rw[filter_append,map_append,filter_cons_of_neg Tah];simp
theorem VN(h:cI k k'=0):nV i (ps++ [(k,pr)]) k'=nV i ps k'++ [pr.getD i (aN,aN)]:=by unfold nV;rw[filter_append,map_append,filter_cons_of_pos Tah];simp
theorem I3(h:∀p∈ps,cI p.1 k≠0):nV i ps k=[]:=by unfold nV;rw[List.filter_eq_nil_iff.2 λ p hp=>by simpa using h p hp];rfl
theorem Qn (op:Int)(l:List (Val×Val))(x:Val×Val):jt op (l++ [x])=(jt op l).feed x.1 x.2:=by unfold jt St.yK;rw[foldl_append];rfl
theorem Jo(h:cI k k'≠0):dS ops (ps++ [(k,pr)]) k'=dS ops ps k':=by
 unfold dS;exact map_congr_left λ i _=>by rw[Qm h]
theorem Mw(h:cI k k'=0)(hl:pr.length=ops.length):dS ops (ps++ [(k,pr)]) k'=List.zipWith (λ s p=>St.feed s p.1 p.2) (dS ops ps k') pr:=by
 apply ext_getElem
 ·simp[dS,hl]
 ·intro i h1 h2;have hi:i < ops.length:=by simpa [dS] using h1
  simp only[dS,getElem_zipWith,getElem_map,getElem_range];rw[VN h,Qn,getD_eq_getElem?_getD (l:=pr),getElem?_eq_getElem (by omega:i < pr.length)];rfl
theorem CK(h:∀p∈ps,cI p.1 k≠0):dS ops ps k=ops.map fg:=by
 apply ext_getElem
 ·simp[dS]
 ·intro i h1 h2;have hi:i < ops.length:=by simpa using h2
  simp only[dS,getElem_map,getElem_range];rw[I3 h,getD_eq_getElem?_getD,getElem?_eq_getElem hi];rfl
theorem VO(jC:∀op∈ops,isAgg op=true)  :∀s∈dS ops ps k,∃op l,op∈ops/\l.length<=ps.length/\s=jt op l:=by
 intro s hs;unfold dS at hs;obtain⟨i,hi,rfl⟩:=List.mem_map.1 hs;have hi:i < ops.length:=List.mem_range.1 hi;refine⟨_,nV i ps k,?_,?_,rfl⟩
 ·rw[getD_eq_getElem?_getD,getElem?_eq_getElem hi];exact getElem_mem hi
 ·unfold nV;rw[length_map];exact length_filter_le _ _
end Go.Proofs.YtndgjggokjickaaGreatDoor
