/- Parts of the proof. -/
import Derived.Lib.AppendZerosOnto
import Derived.Lib.Overlaps
import Derived.Test.YtndgjggokjickaaGreatDoorXS5
namespace Go.Proofs.YtndgjggokjickaaGreatDoor.R
open List
variable{p:Prop}
set_option maxHeartbeats 90000000
set_option maxRecDepth 100000
set_option linter.unusedSimpArgs false
set_option linter.unusedVariables false
section
variable {σ:cq}
end
section
variable {α β:Type} {P k:Ps α} {σ zr:cq} {p:Ps β} {f:β->Ps α} {x:β} {z:α}
end
section
variable {α β γ:Type}
end
section
variable {α β:Type} {n:Nat} {p:Ps α} {Q Q':α->Prop} {R:β->Prop}
end
section
variable {n:Nat}
end
def aaY (t:Wd):Prop:=(0<=t.n/\t.n<=9223372036854775807)/\(t.k=4->t.s∈signs)
variable{rest:List UInt8}
theorem aaZ{r:List UInt8} {w:Wd}(h:ie r=.ok (w,rest)):aaY w:=by
 match r with
 | []=>cases h
 | c::r=>
   simp only[ie] at h;split at h
   ·exact ZfK
   split at h
   ·split at h
    ·rename_i hb;injection h with h;injection h with h1 h2;subst h1;refine⟨?_,λ e=>by simp at e⟩;simp only[Bool.and_eq_true,wu,decide_eq_true_eq] at hb;have:=hb.1.2;simp only;omega
    ·cases h
   split at h
   ·exact ZfK
   ·split at h
    ·rename_i s hs;injection h with h;injection h with h1 h2;subst h1;exact⟨⟨by simp,by simp⟩,λ _=>(rL hs).1⟩
    ·cases h
theorem Mg (n:Nat):∀(f:Nat) (r:List UInt8) (l:List rJ),xO n f r=.ok l->(∃b,l=b++ [⟨⟨0,[],0⟩,n⟩])/\l.length<=r.length+1/\∀t∈l,aaY t.w
 | 0,r,l,h=>by cases h
 | f+1,r,l,h=>by
   have hle:=jY false r;simp only[xO] at h;split at h
   ·injection h with h;subst h;exact⟨⟨[],rfl⟩,by simp,λ t ht=>by simp at ht;subst ht;exact⟨⟨by simp,by simp⟩,λ e=>by simp at e⟩⟩
   ·rename_i c r' hsk;rw[hsk] at hle;split at h
    ·cases h
    ·rename_i w rest ho;have hlt:=AH ho;split at h
     ·cases h
     ·rename_i l' hl';injection h with h;subst h;obtain⟨⟨b,hb⟩,h1,h2⟩:=Mg n f rest l' hl';refine⟨⟨⟨w,_⟩::b,by rw[hb];rfl⟩,by simp only[length_cons] at hlt hle ⊢;omega,λ t ht=>?_⟩;rcases List.mem_cons.1 ht with rfl | ht
      ·exact aaZ ho
      ·exact h2 t ht
variable{s:List UInt8}
theorem SE{l:List rJ}(h:zZ s=.ok l):(∃b n,l=b++ [⟨⟨0,[],0⟩,n⟩])/\l.length<=4097/\∀t∈l,aaY t.w:=by
 unfold zZ at h;split at h
 ·cases h
 ·rename_i hs;obtain⟨⟨b,hb⟩,h1,h2⟩:=Mg _ _ _ _ h;exact⟨⟨b,_,hb⟩,by omega,h2⟩
theorem UT{l:List rJ}(h:zZ s=.ok l):zk (l.map (·.w)):=by obtain⟨⟨b,n,rfl⟩,_⟩:=SE h;exact⟨b.map (·.w),⟨0,[],0⟩,by simp,rfl⟩
open Go.ChangeShapes Go.WideShapes Go.ChangeAt Go.RowKit
theorem Gd:(Tryz.prog.info? 48).map (λ i=>(i.zero,i.size,i.bytes))=some (some (.agg #[ag 0,ag 0,af 0,au,au,af 0,az,au]),8,104):=by exact ZhU
variable{α:Type}
def adO(E:El α)(lng:α->Bool)(ρ:dv)(p:Ps α)(σ:cq)(big:Bool)(y:E.β)(w w':World):Prop:=∃x:α,E.rel w' (jf w.heap.size w') x y/\eF ρ w w' (dr p σ) (big || lng x)/\jZ p σ x
variable{E:El α}{T:TypeId}{lng:α->Bool}{ρ:dv}{σ:cq}{big:Bool}{w0 wr w1 gI w2 W:World}{B:Nat}{v v':Value}{acc:List α}{y:E.β}
theorem PI{p:Ps α}       (hB:w0.heap.size<=B)(hg:ρ.g < w0.heap.size)(hR:km E T wr B v acc)(hBr:B<=wr.heap.size)(hD:eF ρ w0 wr σ big)(fq:ai wr w1)(hp:adO E lng ρ p σ big y w1 gI)(hl2:ai gI w2)(bK:w2.grownBy W v.ownBlock)
  (ys:List E.β) (LG:aI E.f T E.size W B v' (ys++ [y])) (hys:mM (E.rel wr (ym B v wr)) acc ys) (hv:v'.ownBlock=v.ownBlock\/v'.ownBlock=some w2.heap.size):
  ∃x:α,km E T W B v' (acc++ [x])/\eF ρ w0 W (dr p σ) (big || lng x)/\jZ p σ x:=by
 obtain⟨x,hx,hd,WT⟩:=hp;have hgB:ρ.g < B:=by omega
 have own:∀G,v.ownBlock=some G->B<=G/\G < wr.heap.size:=λ G hG=>hR.PF hG
 refine⟨x,⟨ys++ [y],LG,mM.append ?_ (.one ?_)⟩,?_,WT⟩
 ·exact hys.imp λ a b hab=>E.keep (Ct bK hv) (E.keep (pK hl2) (E.keep (pJ hd.grown hgB) (E.keep (pK fq) hab)))
 ·refine E.keep (Ct bK hv) (E.keep (ZG (B:=w1.heap.size) (B':=B) (Nat.le_trans hBr fq.size) λ G hG=>?_) (E.keep (iL hl2) hx));exact Nat.lt_of_lt_of_le (own G hG).2 fq.size
 ·exact(((hD.later fq).trans hd).later hl2).own hg bK λ G hG=>by have:=(own G hG).1;omega
variable{q:Nat}{w:World}
theorem Mh(hq:q < B)(i:Nat)(u:Value):∀b,ym B v w b->(∀o,(w.setCell ⟨q,i,none⟩ u).cell? ⟨b,o,none⟩=w.cell? ⟨b,o,none⟩)/\ym B v (w.setCell ⟨q,i,none⟩ u) b:=λ b hb=>
 ⟨cell_of_heap (Below.heap_setCell w ⟨q,i,none⟩ u b (by have:=hb.1;simp;omega)),hb.1,by simpa [World.setCell] using hb.2.1,hb.2.2⟩
theorem km.far{l:List α}(h:km E T w B v l)(hq:q < B)(i:Nat)(u:Value):km E T (w.setCell ⟨q,i,none⟩ u) B v l:=by
 have vC:=λ G hG=>(h.PF (G:=G) hG).1
 obtain⟨ys,h1,h2⟩:=h.has;exact⟨ys,h1.keep λ g hg=>Below.heap_setCell w ⟨q,i,none⟩ u g (by have:=vC g hg;simp;omega),h2.imp λ x y=>E.keep (Mh hq i u)⟩
def quZ:Obj:=.cells #[az,au,.bool false,az,az,az,az,az] 27
theorem PJ:(Tryz.prog.info? 117).map (λ i=>(i.zero,i.size,i.bytes))=some (some (.agg #[ag 0,ag 0,af 0,au,au,af 0,az,.bool false]),8,96):=by exact ZhU
def Ah (w:World)(q:Nat)(m:yl):World:=(((((((w.setCell ⟨q,0,none⟩ (nY m.items)).setCell ⟨q,1,none⟩ (.string m.bZ)).setCell ⟨q,2,none⟩ (.bool m.only)).setCell ⟨q,3,none⟩ (nY m.cK)).setCell ⟨q,4,none⟩ (nY m.group)).setCell ⟨q,5,none⟩ (nY m.having)).setCell ⟨q,6,none⟩ (nY m.order)).setCell ⟨q,7,none⟩ (nY m.dz)
variable{a b e f g i:Value}
theorem Mi{c d:Value}(h:aC w q T #[a,b,c,d,e,f,g,i])(m:yl):aC (Ah w q m) q T (Ma m).toArray:=by have:=(((((((h.aW 0 (nY m.items)).aW 1 (.string m.bZ)).aW 2 (.bool m.only)).aW 3 (nY m.cK)).aW 4 (nY m.group)).aW 5 (nY m.having)).aW 6 (nY m.order)).aW 7 (nY m.dz);exact Zef
theorem eF.Ah(h:eF ρ W w σ big)(hW:ρ.g < W.heap.size)(hq:W.heap.size<=q)(m:yl):eF ρ W (Ah w q m) σ big:=
 (((((((h.far hW hq 0 _).far hW hq 1 _).far hW hq 2 _).far hW hq 3 _).far hW hq 4 _).far hW hq 5 _).far hW hq 6 _).far hW hq 7 _
variable{d:Qu}{m:yl}
theorem Qu.at_.Ah(h:d.at_ w (jf B w) m)(hq:q < B)(m':yl):d.at_ (Ah w q m') (jf B (Go.Proofs.YtndgjggokjickaaGreatDoor.R.Ah w q m')) m:=by
 have s:=λ(w:World) (h:d.at_ w (jf B w) m) (i:Nat) (u:Value)=>Qu.at_.keep (sT (w:=w) hq i u) h
 exact s _ (s _ (s _ (s _ (s _ (s _ (s _ (s _ h 0 _) 1 _) 2 _) 3 _) 4 _) 5 _) 6 _) 7 _
variable{S:Nat->Prop}{G:Nat}
theorem aba{k:Int}(h:aC w G 2 #[af k])(hS:S G):Sa.sl w S ⟨some ⟨G,0,none⟩,1,1⟩ [k]:=
 ⟨rfl,[k],Ph (f:=λ k:Int=> [Value.int .i64 k]) (λ _=>rfl) h hS,.one rfl⟩
section
variable {ρ:dv} {w wr w2:World} {big:Bool} {σ zr:cq} {m:yl} {d:Qu}
end
inductive abb (s:List UInt8):dI->List Tr->dI->Prop
 | none {l:dI} (h:dJ s l=false):abb s l [] l
 | some {k:Wd} {l r:dI} {x:Tr} (h:iN s k=true) (H:cW 0 l x r):abb s (k::l) [x] r
inductive uM:dI->List (Tr×ByteArray)->dI->Prop
 | one {l r:dI} {u:Wd} {x:Tr} (H:cW 0 l x (u::r)) (ha:iN aaF u=false) (hc:iN dM u=false):uM l [(x,ByteArray.empty)] (u::r)
 | cons {l l2 r:dI} {c:Wd} {x:Tr} {xs:List (Tr×ByteArray)} (H:cW 0 l x (c::l2)) (ha:iN aaF c=false) (hc:iN dM c=true) (h:uM l2 xs r):uM l ((x,ByteArray.empty)::xs) r
inductive SF:dI->List (Tr×ByteArray)->dI->Prop
 | done {r:dI} {u:Wd} (hc:iN dM u=false):SF (u::r) [] (u::r)
 | more {l r:dI} {c:Wd} {xs:List (Tr×ByteArray)} (hc:iN dM c=true) (h:uM l xs r):SF (c::l) xs r
variable{l r:dI}{xs:List (Tr×ByteArray)}
theorem uM.first(h:uM l xs r):∃(x:Tr) (ys:List (Tr×ByteArray)) (c:Wd) (l2:dI),xs=(x,ByteArray.empty)::ys/\cW 0 l x (c::l2)/\iN aaF c=false/\SF (c::l2) ys r:=by
 cases h with
 | one H ha hc=>exact⟨_,_,_,_,rfl,H,ha,.done hc⟩
 | cons H ha hc h=>exact⟨_,_,_,_,rfl,H,ha,.more hc h⟩
inductive agn:dI->List Tr->dI->Prop
 | none {l:dI} (h:dJ AL l=false):agn l [] l
 | some {k b u:Wd} {l r:dI} {x:Tr} (h:iN AL k=true) (hb:iN OZ b=true) (hc:iN dM u=false) (H:cW 0 l x (u::r)):agn (k::b::l) [x] (u::r)
inductive ago:dI->List (Tr×Bool)->dI->Prop
 | none {l:dI} (h:dJ Iw l=false):ago l [] l
 | some {k b d u:Wd} {l r:dI} {x:Tr} (h:iN Iw k=true) (hb:iN OZ b=true) (hd:iN Pa d=true) (hc:iN dM u=false) (H:cW 0 l x (d::u::r)):ago (k::b::l) [(x,true)] (u::r)
inductive agp:dI->List Int->dI->Prop
 | none {l:dI} (h:dJ Ix l=false):agp l [] l
 | some {k n:Wd} {r:dI} (h:iN Ix k=true) (hn:n.k=2):agp (k::n::r) [n.n] r
structure WU (ρ:dv) (w wr:World) (l:dI) (m:yl) (d:Qu):Prop where
 did:eF ρ w wr (.good l) false
 blk:aC wr (w.heap.size+1) 27 (Ma m).toArray
 res:aC wr w.heap.size 27 #[az,au,.bool false,az,az,az,az,az]
 at_:d.at_ wr (jf (w.heap.size+2) wr) m
section
variable {ρ:dv} {w wr w2:World} {l r:dI} {m:yl} {d:Qu}
theorem WU.later (A:WU ρ w wr l m d)(hb:aj wr w2):WU ρ w w2 l m d:=
 ⟨A.did.later hb,A.blk.later hb,A.res.later hb,Qu.at_.keep (iL hb) A.at_⟩
theorem WU.Ew (A:WU ρ w wr l m d)(hg:ρ.g < w.heap.size)(dd:eF ρ wr w2 (.good r) false):WU ρ w w2 r m d:=
 ⟨A.did.trans dd,dd.blk A.blk WC,dd.blk A.res WC,Qu.at_.keep (lJ dd.grown WC) A.at_⟩
theorem WU.set {m':yl} {d':Qu}(A:WU ρ w wr l m d)(hg:ρ.g < w.heap.size)(i:Nat)(u:Value)(hb:(Ma m').toArray=(Ma m).toArray.setIfInBounds i u)(hat:Qu.at_ wr (jf (w.heap.size+2) wr) d' m'):WU ρ w (wr.setCell ⟨w.heap.size+1,i,none⟩ u) l m' d':=by refine⟨A.did.far hg WC i u,?_,A.res.far (p:=⟨w.heap.size+1,i,none⟩) Tac u,Qu.at_.keep (sT WC i u) hat⟩;rw[hb];exact A.blk.aW i u
end
def alB(x:α)(r:dI):Ps α:=λ _=> .ok (x,r)
structure T6 {α:Type} (E:El α) (T:TypeId) (ρ:dv) (w wr:World) (l:dI) (k:Nat) (v:Value) (acc:List α) (cs:List Value) (m:yl) (d:Qu):Prop where
 row:km E T wr (w.heap.size+2) v acc
 did:eF ρ w wr (.good l) false
 blk:aC wr (w.heap.size+1) 27 cs.toArray
 res:aC wr w.heap.size 27 #[az,au,.bool false,az,az,az,az,az]
 at_:d.at_ wr (ym (w.heap.size+2) v wr) m
 cel:cs[k]?=some v
variable{k:Nat}{cs:List Value}
theorem T6.Ew(A:T6 E T ρ w wr l k v acc cs m d)(hg:ρ.g < w.heap.size)(dd:eF ρ wr w2 (.good r) false):T6 E T ρ w w2 r k v acc cs m d:=
 ⟨A.row.grown dd.grown WC,A.did.trans dd,dd.blk A.blk WC,dd.blk A.res WC,Qu.at_.keep (pJ dd.grown WC) A.at_,A.cel⟩
variable{m':yl}{d':Qu}
theorem T6.done(A:T6 E T ρ w wr l k v acc cs m d)(hm:(Ma m').toArray=cs.toArray)(hat:Qu.at_ wr (jf (w.heap.size+2) wr) d' m'):WU ρ w wr l m' d':=
 ⟨A.did,hm▸A.blk,A.res,hat⟩
variable{val:E.β->Value}{z:Value}{bytes:Nat}{x:α}{lv:Value}{Q:Exit->Act->World->Prop}{a0:Act}{rid:Nat}{o0 o1 o2 o3 o4 o5 o6 o7:Oper}{d0 d1 d2 d3 d4 d5 d6:Tmp}{F:FuncId}
theorem PK{q:Tmp} (t ty:TypeId)
  (A:T6 E T ρ w wr l k lv acc cs m d) (ee:ρ.g < w.heap.size) (hn:acc.length<=64) (hby:bytes<=1000)
  (hc:∀w',ρ.at w' (.good l) false->ar F #[ρ.ptr] w' (ElW E val ρ w' x r))
  (bh:dO [o0,o1,o2,o3,o4,o5,o6] a0.tmps.size [o0,o1,o2,o3,o4,o5,o6] 0=true) (hz:eK [o0,o1,o2,o3,o4,o5,o6,o7] [o7] 7=true) (hch:lx [o0,o1,o2,o3,o4,o5,o6] [3,4,5]=true) (Cn:Cm o0 o1 o2 o3 o4 o5 o6 q d0 d1 d2 d3 d4 d5 d6=true)
  (hq:a0.eval (.tmp q)=aw (w.heap.size+1)) (h0:a0.eval (.tmp 0)=ρ.ptr)
  (hfa:∀ρ' w',ρ' (.tmp q)=aw (w.heap.size+1)->(execOp ρ' o0).run Tryz.prog w'=.ok (.value (bj (w.heap.size+1) k)) w')
  (Zn:∀ρ' w',ρ' (.tmp q)=aw (w.heap.size+1)->(execOp ρ' o6).run Tryz.prog w'=.ok (.value (bj (w.heap.size+1) k)) w')
  (T5:∀ρ' w',ρ' (.tmp d0)=bj (w.heap.size+1) k->w'.cell? ⟨w.heap.size+1,k,none⟩=some lv->(execOp ρ' o1).run Tryz.prog w'=.ok (.value lv) w')
  (Eu:∀ρ' w',ρ' (.tmp 0)=ρ.ptr->(execOp ρ' o2).run Tryz.prog w'=.ok (.value ρ.ptr) w')
  (cg:∀ρ' w',oT ρ'->ρ' (.tmp d2)=ρ.ptr->(execOp ρ' o3).run Tryz.prog w'=.ok (.enter F #[ρ.ptr]) w')
  (JX:∀ρ' w' y,ρ' (.tmp d3)=val y->(execOp ρ' o4).run Tryz.prog w'=.ok (.value (aF w'.heap.size 1 1)) (w'.alloc (.cells (E.f y).toArray T)))
  (hap:∀ρ' w' s v' Zo,ρ' (.tmp d1)=lv->ρ' (.tmp d4)=s->(Builtin.append_ #[t,t] ty #[lv,s]).run Tryz.prog w'=.ok v' Zo->(execOp ρ' o5).run Tryz.prog w'=.ok (.value v') Zo)
  (ht:Tryz.prog.underlying t=some (.slice T)) (jm:(Tryz.prog.info? T).map (λ i=>(i.zero,i.size,i.bytes))=some (some z,E.size,bytes)) (hzs:z.cells.size=E.size) (hsz:0 < E.size) (hf:∀x,(E.f x).length=E.size) (h1:∀y,∀u∈E.f y,u.oneCell'=true)
  (mn:∀y s v' W,T6 E T ρ w (W.setCell ⟨w.heap.size+1,k,none⟩ v') r k v' (acc++ [x]) (cs.set k v') m d->W.cell? ⟨w.heap.size+1,k,none⟩=some lv->W.frozen? ⟨w.heap.size+1,k,none⟩=false->
    wpList Tryz.prog [o0,o1,o2,o3,o4,o5,o6,o7].toArray Q [o7] (((((((a0.put (some d0) (bj (w.heap.size+1) k)).put (some d1) lv).put (some d2) ρ.ptr).put (some d3) (val y)).put (some d4) s).put (some d5) v').put (some d6) (bj (w.heap.size+1) k)) W):
  (Code.region rid [o0,o1,o2,o3,o4,o5,o6,o7].toArray true).wp Tryz.prog Q a0 wr:=by
 obtain⟨ys,ho,ha⟩:=A.row.has;have hyl:ys.length=acc.length:=ha.len;have how:=λ G hG=>A.row.PF (G:=G) hG
 have hwr:=A.blk.lt;refine IQ (P:=Tryz.prog) (f:=E.f) (val:=val) (e:=T) (size:=E.size) (base:=w.heap.size+2) (l:=ys) (lv:=lv) (Post:=adO E (λ _=>false) ρ (alB x r) (.good l) false) (w0:=wr) (qb:=w.heap.size+1) (k:=k) (g:=ρ.g) (ptr:=ρ.ptr) (F:=F) (args:= #[ρ.ptr]) t ty z bytes Vx bh hz hch Cn hq h0 hfa Zn T5 Eu cg JX hap ht jm hzs hsz hf h1 ho ((A.blk.cell k).trans (by simpa using A.cel)) WC (λ e'=>by have:=(how _ e').1;omega) (λ e'=>by have:=(how _ e').1;omega) (Nat.le_trans (Nat.mul_le_mul (show _<=65 by omega) hby) Taa) WC WC ?_ ?_ ?_
 ·intro w' hw';refine(hc w' (A.did.at_.later hw')).mono ?_;rintro e w'' ⟨y,rfl,hx,hd⟩;exact⟨y,rfl,x,hx,by rw[Bool.or_false];exact hd,rfl⟩
 ·rintro y w' w'' ⟨x,hx,hd,hv⟩;exact hd.grown
 ·intro y s v' w4 w4' w5 W fq hp hl2 Q7 bK LG NV Cp;obtain⟨_,_,dd,_⟩:=id hp;have hs1:=fq.size;have hs2:=dd.size;have hs3:=hl2.size;obtain⟨x',hgr,hdd,WT⟩:=PI (E:=E) (T:=T) (lng:=λ _=>false) (B:=w.heap.size+2) (acc:=acc) WC ee A.row WC A.did fq hp hl2 bK ys LG ha NV;obtain rfl:x'=x:=WT;have hnq:∀(q:Nat),q < w.heap.size+2->some q≠lv.ownBlock:=λ q hq e'=>by have:=(how q e'.symm).1;omega
  have HX:=(((A.blk.later fq).grown dd.grown Tab).later hl2).grown bK (hnq _ WC);have HR:=(((A.res.later fq).grown dd.grown Tab).later hl2).grown bK (hnq _ WC);have kF:=HX.aW k v';simp only[setIfInBounds_toArray] at kF;refine mn y s v' W ⟨hgr.far WC k v',by have:=hdd.far ee (show w.heap.size<=w.heap.size+1 by omega) k v';rwa [Bool.or_false] at this,kF,HR.far (p:=⟨w.heap.size+1,k,none⟩) Tac v',Qu.at_.keep (Mh (show w.heap.size+1 < w.heap.size+2 by omega) k v') (Qu.at_.keep (Ct bK NV) (Qu.at_.keep (pK hl2) (Qu.at_.keep (pJ dd.grown WC) (Qu.at_.keep (pK fq) A.at_)))),?_⟩ Cp (HX.frozen k);have:=A.cel;rw[getElem?_set_self (by rcases Nat.lt_or_ge k cs.length with h | h;exact h;rw[getElem?_eq_none h] at this;cases this)]
structure ItC (ρ:dv) (w:World) (xs:List (Tr×ByteArray)) (r:dI) (k:Nat) (wr:World) (A:Option Addr) (n c:Nat) (acc ys:List (Tr×ByteArray)) (l:dI):Prop where
 at_:T6 rM 48 ρ w wr l 0 (.slice A n c) acc [.slice A n c,au,.bool false,az,az,az,az,az] {} {}
 more:SF l ys r
 aQ:acc++ys=xs
 len:n=acc.length
 le:ys.length<=k
theorem adP (s:ByteArray)(l:dI)(ρ:dv)(w:World)(h:ρ.at w (.good l) false):ar 87 #[ρ.ptr,.string s] w λ e w'=>∃b,b=dJ s.data.toList l/\e=.returned (.bool b)/\eF ρ w w' (.good (if b=true then l.tail else l)) false:=by
 cases hb:dJ s.data.toList l with
 | false=>exact(cw ρ w _ false h s hb).mono λ e w' ⟨h1,h2⟩=>⟨false,rfl,h1,h2⟩
 | true=>exact(oD ρ w _ false h s hb).mono λ e w' ⟨h1,h2⟩=>⟨true,rfl,h1,h2⟩
theorem ZJ{s:ByteArray}  {W:List Tr}(h:abb s.data.toList l W r)(ρ:dv)(w:World)(hat:ρ.at w (.good l) false):ar 142 #[ρ.ptr,.string s] w (SlW ρ w W r):=by
 cases h with
 | none h=>exact Gc h ρ w hat
 | some h H=>exact PG h H ρ w hat
variable{k0 kf nm:Wd}{l1 l2 l3 l4:dI}{cK group:List Tr}{order:List (Tr×Bool)}{lim:List Int}
theorem ziQ.Kcq(h:p:=by
 have HP:=Mi HS.ae.res { items:=Ey,bZ:=bZ,cK:=⟨Ge,Gf,Gg⟩,group:=sg,having:=⟨Mk,Ml,Mm⟩,order:=so,dz:=Sl.nil };have HR:=dA HP;unfold Ah nY at HR;obtain⟨r0,r1,r2,r3,r4,r5,r6,r7⟩:=HR;refine bodyPost_ret (v:=quV { items:=Ey,bZ:=bZ,cK:=⟨Ge,Gf,Gg⟩,group:=sg,having:=⟨Mk,Ml,Mm⟩,order:=so,dz:=Sl.nil }) Zig rfl ?_
 ·refine⟨{ items:=Ey,bZ:=bZ,cK:=⟨Ge,Gf,Gg⟩,group:=sg,having:=⟨Mk,Ml,Mm⟩,order:=so,dz:=Sl.nil },rfl,?_,HS.ae.did.Ah ee (Nat.le_refl _) { items:=Ey,bZ:=bZ,cK:=⟨Ge,Gf,Gg⟩,group:=sg,having:=⟨Mk,Ml,Mm⟩,order:=so,dz:=Sl.nil }⟩;rw[oO.ae,<- Kx.ae];exact Qu.at_.keep (iX WC) (HS.ae.at_.Ah WC { items:=Ey,bZ:=bZ,cK:=⟨Ge,Gf,Gg⟩,group:=sg,having:=⟨Mk,Ml,Mm⟩,order:=so,dz:=Sl.nil })):p:=h
theorem ziR.Kcq(h:p:=by
 have HP:=Mi HS.ae.res { items:=Ey,bZ:=bZ,cK:=⟨Ge,Gf,Gg⟩,group:=sg,having:=⟨Mk,Ml,Mm⟩,order:=so,dz:=⟨some ⟨UO.heap.size,0,none⟩,1,1⟩};have HR:=dA HP;unfold Ah nY at HR;obtain⟨r0,r1,r2,r3,r4,r5,r6,r7⟩:=HR;refine bodyPost_ret (v:=quV { items:=Ey,bZ:=bZ,cK:=⟨Ge,Gf,Gg⟩,group:=sg,having:=⟨Mk,Ml,Mm⟩,order:=so,dz:=⟨some ⟨UO.heap.size,0,none⟩,1,1⟩}) Zig rfl ?_
 ·refine⟨{ items:=Ey,bZ:=bZ,cK:=⟨Ge,Gf,Gg⟩,group:=sg,having:=⟨Mk,Ml,Mm⟩,order:=so,dz:=⟨some ⟨UO.heap.size,0,none⟩,1,1⟩},rfl,?_,HS.ae.did.Ah ee (Nat.le_refl _) { items:=Ey,bZ:=bZ,cK:=⟨Ge,Gf,Gg⟩,group:=sg,having:=⟨Mk,Ml,Mm⟩,order:=so,dz:=⟨some ⟨UO.heap.size,0,none⟩,1,1⟩}⟩;rw[oO.ae,<- Kx.ae,<- hk.ae];exact Qu.at_.keep (iX WC) (HS.ae.at_.Ah WC { items:=Ey,bZ:=bZ,cK:=⟨Ge,Gf,Gg⟩,group:=sg,having:=⟨Mk,Ml,Mm⟩,order:=so,dz:=⟨some ⟨UO.heap.size,0,none⟩,1,1⟩})):p:=h
theorem zdG.KaH(h:p:=by
 have HI0:=aa (Cu ha0 H0);have HM0:=aa NC;clear hF ih hit q1 q2 q3 q4 q5 AP Aj fq hz Ny ha0 H0 NC;have hb2:=ai.then (ai.then (ah w quZ) (ah _ quZ)) (ah _ (.cells (bO [fk]) 9));have h0:=h.later hb2;have HQ:=aa (((aC.new w 27 #[az,au,.bool false,az,az,az,az,az]).alloc quZ).alloc (.cells (bO [fk]) 9));have hL0:=aC.new (w.alloc quZ) 27 #[az,au,.bool false,az,az,az,az,az];rw[World.size_alloc] at hL0;have HL:=aa (hL0.alloc (.cells (bO [fk]) 9));have hS0:=aC.new ((w.alloc quZ).alloc quZ) 9 (bO [fk]);rw[World.size_alloc,World.size_alloc] at hS0;clear hL0;unfold quZ at*;go_enter Tryz.func134,Tryz.ntmps134;go_wp2_with fail;refine(mq HF.ae ρ _ h0 (w.heap.size+2) hS0 WC).mono ?_;rintro e w1 ⟨rfl,d1⟩;have HA:=aa (show T6 rM 48 ρ w w1 l 0 (az) [] [az,au,.bool false,az,az,az,az,az] {} {} from⟨km.nil rM _ w1 _,(eF.cZ h hb2).trans d1,HL.ae.grown d1.grown Tab,HQ.ae.grown d1.grown Tab,Qu.ZA _ _,rfl⟩);clear HL HQ hS0 h0 d1 hb2;go_wp2_with fail;refine(cw ρ w1 _ _ HA.ae.did.at_ ⟨#[42]⟩ IH.ae).mono ?_;rintro e w3 ⟨rfl,d3⟩;have IV:=aa (HA.ae.Ew ee d3);clear d3 HA;go_wp2_with fail;refine PK (E:=rM) (val:=itV) (T:=48) (q:=3) (d0:=10) (d1:=11) (d2:=12) (d3:=13) (d4:=14) (d5:=15) (d6:=16) (F:=178) 22 22 IV.ae ee Tac WC (λ w' hw=>HI0.ae ρ w' hw) Vx Vx Vx Vx rfl rfl ?_ ?_ ?_ ?_ ?_ ?_ ?_ Tryz.underlying22 Gd rfl Taa (λ _=>rfl) (by intro y u hu;replace hu:u∈SC y:=hu;simp[SC,bI] at hu;rcases hu with rfl | rfl | rfl | rfl | rfl | rfl | rfl | rfl <;> rfl) ?_
 ·exact Zcw
 ·exact Zcw
 ·exact Zd0
 ·exact Zcw
 ·exact Ze9
 ·exact ZgC
 ·exact ZgB
 intro y s v' W A4 cg hxf;obtain⟨⟨A,n,c⟩,KK,NL,_⟩:=A4.row.sl (B':=w.heap.size) WC;replace KK:v'=.slice A n c:=KK;replace NL:n=1:=NL;subst KK;have HI:=aa (show ItC ρ w ((x0,ByteArray.empty)::ys0) (kf::nm::l1) ys0.length (W.setCell ⟨w.heap.size+1,0,none⟩ (.slice A n c)) A n c [(x0,ByteArray.empty)] ys0 (c0::l0)from⟨A4,HM0.ae,rfl,NL,Nat.le_refl _⟩);clear A4 NL HM0 HI0 IV;simp only[Act.put,Uac];go_wp2_with fail;clear hxf cg;generalize W.setCell ⟨w.heap.size+1,0,none⟩ (.slice A n c)=W4 at*;generalize hXS:(x0,ByteArray.empty)::ys0=xs at*;have oO:=aa hXS;clear hXS;generalize ys0.length=kk at*;generalize [(x0,ByteArray.empty)]=aze at*;generalize c0::l0=lc at*;go_loopg [] kk (λ k wr=>∃A n c acc ys l',ItC ρ w xs (kf::nm::l1) k wr A n c acc ys l');case atStart=>exact⟨_,_,_,_,_,_,HI.ae⟩
 case round=>
  obtain⟨A2,n2,c2,acc,ys,l',hE⟩:=hrel;have hlen:acc.length<=64:=by have:=Q1.ae;rw[<- hE.aQ,length_append] at this;omega
  have x0:=hE.at_.blk.cell 0;simp only[Uaa] at x0;have SG:=hE.at_.blk.lt;have HN:=aa hE.len;have HE:=aa hE;have Ur:=aa hlen;clear hE HI hlen;go_wp2_with fail;rcases HE.ae.more with ⟨hc⟩|⟨hc,hit⟩
  ·refine(Calls.mono (P:=Tryz.prog) (by rw[HN.ae];exact IU hc acc.length Ur.ae ρ wr HE.ae.at_.did.at_) ?_);rintro e w8 ⟨rfl,d8⟩;have hA:=HE.ae.at_.Ew ee d8;obtain⟨Ey,alF,hn8,Mj⟩:=hA.row.sl (B':=w.heap.size+2) (Nat.le_refl _);clear hn8;have hax:acc=xs:=by have:=HE.ae.aQ;rwa [append_nil] at this
   have Uz:=aa (hA.done (m':= { items:=Ey }) (d':= { items:=xs }) (by rw[alF];rfl) { Qu.ZA w8 _ with items:=hax▸Mj });clear Mj alF hA d8 hax hc;have WR:=Uz.ae.blk.lt;have bf:=ah w8 (.cells (bO [xP]) 9);have HQF:=aa (Uz.ae.later bf);clear HE Uz;go_wp2_with fail;refine(mq HH.ae ρ _ HQF.ae.did.at_ w8.heap.size (aC.new _ _ _) WC).mono ?_;rintro e w4 ⟨rfl,d4⟩;have zu:=aa (HQF.ae.Ew ee d4);clear HQF d4 bf;go_wp2_with fail;refine(cw ρ _ _ _ zu.ae.did.at_ ⟨#[111,110,108,121]⟩ Q3.ae).mono ?_;rintro e w5 ⟨rfl,d5⟩;have hQ3:=zu.ae.Ew ee d5;have ZI:=aa (hQ3.set (m':= { items:=Ey }) (d':= { items:=xs }) ee 2 (.bool false) rfl hQ3.at_);have hf2:=hQ3.blk.frozen 2;have hc2:=hQ3.blk.cell 2;clear hQ3 d5 zu;go_wp2_with fail;clear hf2 hc2;generalize w5.setCell ⟨w.heap.size+1,2,none⟩ (.bool false)=W6 at*;refine(Cr Q4.ae Q5.ae ρ _ ZI.ae.did.at_).mono ?_;rintro e w6 ⟨bZ,alH,rfl,d6⟩;have Kx:=aa alH;clear alH;have hQ5:=ZI.ae.Ew ee d6;have Ae:=aa (hQ5.set (m':= { items:=Ey,bZ:=bZ }) (d':= { items:=xs,bZ:=bZ }) ee 1 (.string bZ) rfl { hQ5.at_ with bZ:=rfl });have T8:=hQ5.blk.frozen 1;have hc1:=hQ5.blk.cell 1;clear hQ5 d6 ZI;go_wp2_with fail;clear T8 hc1;generalize w6.setCell ⟨w.heap.size+1,1,none⟩ (.string bZ)=W7 at*;refine(ZJ (s:=⟨#[119,104,101,114,101]⟩) oQ.ae ρ _ Ae.ae.did.at_).mono ?_;rintro e w7 ⟨⟨Ge,Gf,Gg⟩,rfl,hsw,d7⟩;have hs7:=Ae.ae.did.size;have hq7:=Ae.ae.blk.lt;have hQ7:=Ae.ae.Ew ee d7;have IK:=aa (hQ7.set (m':= { items:=Ey,bZ:=bZ,cK:=⟨Ge,Gf,Gg⟩}) (d':= { items:=xs,bZ:=bZ,cK:=cK }) ee 3 (.slice Ge Gf Gg) rfl { hQ7.at_ with cK:=El.lies.more hsw WC})
   have hf3:=hQ7.blk.frozen 3;have hc3:=hQ7.blk.cell 3;clear hQ7 d7 hsw Ae;unfold nY at*;go_upto_if 42 with fail;clear hf3 hc3;generalize w7.setCell ⟨w.heap.size+1,3,none⟩ (.slice Ge Gf Gg)=W8 at*;refine(adP ⟨#[103,114,111,117,112]⟩ l2 ρ _ IK.ae.did.at_).mono ?_;rintro e w8 ⟨bg,hbg,rfl,d8⟩;have HBG:=aa hbg;have Sy:=aa d8;clear hbg d8;go_upto_if 42 with fail;go_cut [] (λ wx=>∃sg,WU ρ w wx l3 { items:=Ey,bZ:=bZ,cK:=⟨Ge,Gf,Gg⟩,group:=sg } { items:=xs,bZ:=bZ,cK:=cK,group:=group })
   case first=>
    rcases ZV.ae with ⟨hg⟩|⟨hk,hb,hc,H⟩
    ·obtain rfl:bg=false:=HBG.ae.trans hg;have T9:=aa (IK.ae.Ew ee Sy.ae);clear Sy hg IK;go_wp2_with fail;go_meet;exact⟨_,T9.ae⟩
    ·obtain rfl:bg=true:=HBG.ae.trans hk;have d8:=Sy.ae;replace hb:=aa hb;replace hc:=aa hc;have T9:=aa ((IK.ae.Ew ee d8).later (ah w8 (.cells (bO [OZ]) 9)));have hw8:=d8.size;have hs8:=IK.ae.did.size;clear d8 Sy hk IK;go_wp2_with fail;refine(mq hb.ae ρ _ T9.ae.did.at_ w8.heap.size (aC.new _ _ _) WC).mono ?_;rintro e w9 ⟨rfl,d9⟩;have xZ:=aa (T9.ae.Ew ee d9);clear d9 T9;go_wp2_with fail;refine(UR hc.ae H ρ _ xZ.ae.did.at_).mono ?_;rintro e zv ⟨⟨sgA,Fs,sgc⟩,rfl,hsg,d10⟩;have IL:=xZ.ae.blk.lt;have Cv:=xZ.ae.Ew ee d10;have IW:=aa (Cv.set (m':= { items:=Ey,bZ:=bZ,cK:=⟨Ge,Gf,Gg⟩,group:=⟨sgA,Fs,sgc⟩}) (d':= { items:=xs,bZ:=bZ,cK:=cK,group:=[_] }) ee 4 (.slice sgA Fs sgc) rfl { Cv.at_ with group:=El.lies.more hsg WC});have hf4:=Cv.blk.frozen 4;have hc4:=Cv.blk.cell 4;clear Cv d10 hsg xZ;unfold nY;go_wp2_with fail;go_meet;exact⟨_,IW.ae⟩
   case rest=>
    obtain⟨sg,hQ⟩:=hcut;have T9:=aa hQ;clear hQ IK Sy;go_wp2_with fail;refine(Gc (s:=⟨#[104,97,118,105,110,103]⟩) Ay.ae ρ _ T9.ae.did.at_).mono ?_;rintro e w11 ⟨⟨Mk,Ml,Mm⟩,rfl,hsh,d11⟩;have azf:=T9.ae.blk.lt;have Cv:=T9.ae.Ew ee d11;have IW:=aa (Cv.set (m':= { items:=Ey,bZ:=bZ,cK:=⟨Ge,Gf,Gg⟩,group:=sg,having:=⟨Mk,Ml,Mm⟩}) (d':= { items:=xs,bZ:=bZ,cK:=cK,group:=group }) ee 5 (.slice Mk Ml Mm) rfl { Cv.at_ with having:=El.lies.more hsh WC});have hf5:=Cv.blk.frozen 5;have hc5:=Cv.blk.cell 5;clear Cv d11 hsh T9;unfold nY;go_upto_if 53 with fail;clear hf5 hc5;generalize w11.setCell ⟨w.heap.size+1,5,none⟩ (.slice Mk Ml Mm)=W12 at*;refine(adP ⟨#[111,114,100,101,114]⟩ l3 ρ _ IW.ae.did.at_).mono ?_;rintro e w12 ⟨bo,Cw,rfl,d12⟩;have HBO:=aa Cw;have ZK:=aa d12;clear Cw d12;go_upto_if 53 with fail;go_cut [] (λ wx=>∃so,WU ρ w wx l4 { items:=Ey,bZ:=bZ,cK:=⟨Ge,Gf,Gg⟩,group:=sg,having:=⟨Mk,Ml,Mm⟩,order:=so } { items:=xs,bZ:=bZ,cK:=cK,group:=group,order:=order })
    case first=>
     rcases jH.ae with ⟨hg⟩|⟨hk,hb,hd,hc,H⟩
     ·obtain rfl:bo=false:=HBO.ae.trans hg;have Ai:=aa (IW.ae.Ew ee ZK.ae);clear ZK hg IW;go_wp2_with fail;go_meet;exact⟨_,Ai.ae⟩
     ·obtain rfl:bo=true:=HBO.ae.trans hk;have d12:=ZK.ae;replace hb:=aa hb;replace hc:=aa hc;have HOD:=aa (PH hd H);have Ai:=aa ((IW.ae.Ew ee d12).later (ah w12 (.cells (bO [OZ]) 9)));have azi:=IW.ae.did.size;have azj:=d12.size;clear d12 ZK hk hd H IW;go_wp2_with fail;refine(mq hb.ae ρ _ Ai.ae.did.at_ w12.heap.size (aC.new _ _ _) WC).mono ?_;rintro e SB ⟨rfl,d13⟩;have ZL:=Ai.ae.Ew ee d13;have HP:=aa (show T6 sS 117 ρ w SB _ 6 (az) [] _ { items:=Ey,bZ:=bZ,cK:=⟨Ge,Gf,Gg⟩,group:=sg,having:=⟨Mk,Ml,Mm⟩} { items:=xs,bZ:=bZ,cK:=cK,group:=group } from⟨km.nil sS _ SB _,ZL.did,ZL.blk,ZL.res,Qu.at_.keep (λ b hb=>⟨λ _=>rfl,hb.1,hb.2,by simp[Value.ownBlock]⟩) ZL.at_,rfl⟩);clear ZL d13 Ai;go_wp2_with fail;refine PK (E:=sS) (val:=orV) (T:=117) (q:=3) (d0:=57) (d1:=58) (d2:=59) (d3:=60) (d4:=61) (d5:=62) (d6:=63) (F:=180) 24 24 HP.ae ee Tac WC (λ w' hw=>HOD.ae ρ w' hw) Vx Vx Vx Vx rfl rfl ?_ ?_ ?_ ?_ ?_ ?_ ?_ Tryz.underlying24 PJ rfl Taa (λ _=>rfl) (by intro y u hu;replace hu:u∈ZF y:=hu;simp[ZF,bI] at hu;rcases hu with rfl | rfl | rfl | rfl | rfl | rfl | rfl | rfl <;> rfl) ?_
      ·exact Zcw
      ·exact Zcw
      ·exact Zd0
      ·exact Zcw
      ·exact Ze9
      ·intro ρ' w' y' h';show _=Result.ok _ (w'.alloc (.cells (ZF y').toArray _));simp[go_sem,h',orV,ZF,bI]
      ·exact ZgB
      intro y s v' W A4 cg hxf;obtain⟨⟨A,n,c⟩,KK,NL,Mj⟩:=A4.row.sl (B':=w.heap.size+2) (Nat.le_refl _);replace KK:v'=.slice A n c:=KK;replace NL:n=1:=NL;subst KK NL;have abc:=aa (A4.done (m':= { items:=Ey,bZ:=bZ,cK:=⟨Ge,Gf,Gg⟩,group:=sg,having:=⟨Mk,Ml,Mm⟩,order:=⟨A,1,c⟩}) (d':= { items:=xs,bZ:=bZ,cK:=cK,group:=group,order:=[_] }) rfl { Qu.at_.keep (Mf (Nat.le_refl _)) A4.at_ with order:=Mj });clear A4 Mj HP HOD;simp only[Act.put,Uac];go_wp2_with fail;clear hxf cg;generalize aso:W.setCell ⟨w.heap.size+1,6,none⟩ (.slice A 1 c)=W16 at*;clear aso;go_loopg [] 0 (λ k wr=>wr=W16);case atStart=>exact rfl
      case round=>subst hrel;have x6:=abc.ae.blk.cell 6;unfold Ma nY at x6;simp only[Uaa] at x6;go_wp2_with fail;refine(IU hc.ae 1 WC ρ _ abc.ae.did.at_).mono ?_;rintro e w17 ⟨rfl,d17⟩;have asp:=aa (abc.ae.Ew ee d17);clear d17 abc;go_wp2_with fail;go_meet;exact⟨_,asp.ae⟩
    case rest=>
     obtain⟨so,hQ⟩:=hcut;have Ai:=aa hQ;clear hQ IW ZK;go_wp2_with fail;rcases B9.ae with ⟨hg⟩|⟨hk,hn⟩
     ·refine(cw ρ _ _ _ Ai.ae.did.at_ ⟨#[108,105,109,105,116]⟩ hg).mono ?_;rintro e UO ⟨rfl,d14⟩;have HS:=aa (Ai.ae.Ew ee d14);clear d14 hg Ai;open ziQ in exact ZgF
     ·refine(oD ρ _ _ _ Ai.ae.did.at_ ⟨#[108,105,109,105,116]⟩ hk).mono ?_;rintro e SB ⟨rfl,d13⟩;have abd:=aa (Ai.ae.Ew ee d13);replace hn:=aa hn;clear d13 hk Ai;go_wp2_with fail;refine(LS hn.ae ρ _ abd.ae.did.at_).mono ?_;rintro e UO ⟨k,hk,WK,FX,rfl,d14⟩;replace hk:=aa hk;have b15:=ah UO (.cells #[af k] 2);have ZM:=(abd.ae.Ew ee d14).later b15;have alu:=(abd.ae.Ew ee d14).blk.lt;have hf7:=ZM.blk.frozen 7;have hc7:=ZM.blk.cell 7;have HS:=aa (ZM.set (m':= { items:=Ey,bZ:=bZ,cK:=⟨Ge,Gf,Gg⟩,group:=sg,having:=⟨Mk,Ml,Mm⟩,order:=so,dz:=⟨some ⟨UO.heap.size,0,none⟩,1,1⟩}) (d':= { items:=xs,bZ:=bZ,cK:=cK,group:=group,order:=order,dz:=[k] }) ee 7 (aF UO.heap.size 1 1) rfl { ZM.at_ with dz:=aba (aC.new UO _ _) ⟨by omega,by simp⟩});clear ZM d14 b15 alu abd;open ziR in exact ZgF
  ·obtain⟨x9,ys9,c9,l9,rfl,H9,ha9,hm9⟩:=hit.first
   refine(Calls.mono (P:=Tryz.prog) (by rw[HN.ae];exact ZH hc acc.length Ur.ae ρ wr HE.ae.at_.did.at_) ?_);rintro e w8 ⟨rfl,d8⟩;have HI9:=aa (Cu ha9 H9);have HM9:=aa hm9;have HA8:=aa (HE.ae.at_.Ew ee d8);clear d8 hc hit H9 ha9 hm9;go_wp2_with fail;refine PK (E:=rM) (val:=itV) (T:=48) (q:=3) (d0:=22) (d1:=23) (d2:=24) (d3:=25) (d4:=26) (d5:=27) (d6:=28) (F:=178) 22 22 HA8.ae ee Ur.ae WC (λ w' hw=>HI9.ae ρ w' hw) Vx Vx Vx Vx rfl rfl ?_ ?_ ?_ ?_ ?_ ?_ ?_ Tryz.underlying22 Gd rfl Taa (λ _=>rfl) (by intro y u hu;replace hu:u∈SC y:=hu;simp[SC,bI] at hu;rcases hu with rfl | rfl | rfl | rfl | rfl | rfl | rfl | rfl <;> rfl) ?_
   ·exact Zcw
   ·exact Zcw
   ·exact Zd0
   ·exact Zcw
   ·exact Ze9
   ·exact ZgC
   ·exact ZgB
   intro y s v' W A4 cg hxf;obtain⟨⟨A9,n9,c10⟩,KK,NL,_⟩:=A4.row.sl (B':=w.heap.size) WC;replace KK:v'=.slice A9 n9 c10:=KK;subst KK;have HI9:=aa (show ItC ρ w xs (kf::nm::l1) ys9.length (W.setCell ⟨w.heap.size+1,0,none⟩ (.slice A9 n9 c10)) A9 n9 c10 (acc++ [(x9,ByteArray.empty)]) ys9 (c9::l9)from⟨A4,HM9.ae,by rw[append_assoc];exact HE.ae.aQ,NL,Nat.le_refl _⟩);clear A4 NL;simp only[Act.put,Uac];go_wp2_with fail;go_roundg ys9.length;case measure=>have:=HE.ae.le;rw[length_cons] at this;omega
   case rel=>exact⟨_,_,_,_,_,_,HI9.ae⟩):p:=h
theorem AU(hF:iN fk k0=true)(ih:dJ xQ l=false)(hit:uM l xs (kf::nm::l1))(q1:xs.length<=64)(q2:iN xP kf=true)(q3:iN afL nm=false)(q4:nm.k=1)(q5:tK nm.s=false)(AP:abb Iu l1 cK l2)(Aj:agn l2 group l3)(fq:dJ YK l3=false)(hz:ago l3 order l4)(Ny:agp l4 lim r)(ρ:dv)(w:World)(h:ρ.at w (.good (k0::l)) false):
  ar 134 #[ρ.ptr] w λ e w'=>∃y:yl,e=.returned (quV y)/\Qu.at_ w' (jf w.heap.size w') { items:=xs,bZ:=⟨nm.s.toArray⟩,cK:=cK,group:=group,order:=order,dz:=lim } y/\eF ρ w w' (.good r) false:=by
 have ee:=h.FY;obtain⟨x0,ys0,c0,l0,rfl,H0,ha0,NC⟩:=hit.first
 open zdG in exact Zbm
end Go.Proofs.YtndgjggokjickaaGreatDoor.R
namespace Go.Proofs.YtndgjggokjickaaGreatDoor
set_option maxHeartbeats 90000000
set_option maxRecDepth 100000
open Go.ChangeShapes Go.WideShapes Go.ChangeAt Go.RowKit List
set_option linter.unusedVariables false
set_option linter.unusedSimpArgs false
theorem uD (y:Ex):(bI y).length=7:=rfl
theorem PM (b o j:Nat):(Addr.add ⟨b,o,none⟩ j)=⟨b,o+j,none⟩:=by unfold Addr.add;split <;> simp_all
variable{α:Type}{f:α->List Value}
theorem Cx{size:Nat}(hf:∀x,(f x).length=size)(h0:0 < size):∀(l:List α) (j:Nat) (u:Value),(l.flatMap f)[j]?=some u->∃k r x,j=k*size+r/\r < size/\l[k]?=some x/\(f x)[r]?=some u
 | [],j,u,h=>by simp at h
 | y::l,j,u,h=>by
   rw[flatMap_cons] at h;by_cases hj:j < size
   ·rw[getElem?_append_left (by rw[hf];exact hj)] at h;exact⟨0,j,y,by omega,hj,rfl,h⟩
   ·rw[getElem?_append_right (by rw[hf];omega),hf] at h;obtain⟨k,r,x,h1,hr,h2,h3⟩:=Cx hf h0 l _ u h;exact⟨k+1,r,x,by rw[Nat.succ_mul];omega,hr,by simpa using h2,h3⟩
theorem adR:∀ys:List Ex,(ys.flatMap bI).length=ys.length*7
 | []=>rfl
 | y::ys=>by rw[flatMap_cons,length_append,adR ys,uD,length_cons];omega
variable{w:World}{b r:Nat}{x:Ex}{u:Value}
theorem abe{off:Nat}  (h:cy w b off x)(hr:r < 7)(hu:(bI x)[r]?=some u):w.cell? ⟨b,off+r,none⟩=some u:=by
 unfold cy at h;obtain⟨c0,c1,c2,c3,c4,c5,c6⟩:=h;unfold bI at hu
 match r,hr with
 | 0,_=>rw[<- hu];exact c0
 | 1,_=>rw[<- hu];exact c1
 | 2,_=>rw[<- hu];exact c2
 | 3,_=>rw[<- hu];exact c3
 | 4,_=>rw[<- hu];exact c4
 | 5,_=>rw[<- hu];exact c5
 | 6,_=>rw[<- hu];exact c6
variable{B:Nat}
theorem RE.reads{A:Option Addr} {ys:List Ex}(h:RE w B A ys):Reads w B 7 A ys.length (ys.flatMap bI):=by
 refine⟨adR ys,λ hn=>?_⟩;rcases h with h |⟨b,off,hA,hb,hc⟩
 ·subst h;simp at hn
 ·refine⟨⟨b,off,none⟩,hA,hb,λ j u hu=>?_⟩;obtain⟨k,r,x,rfl,hr,h2,h3⟩:=Cx uD WC ys j u hu;rw[PM,<- Nat.add_assoc];exact abe (hc k x h2) hr h3
theorem PN:∀(ys:List Ex),∀u∈ys.flatMap bI,u.oneCell'=true:=by
 intro ys u hu;obtain⟨y,_,hu⟩:=List.mem_flatMap.1 hu;simp[bI] at hu;rcases hu with rfl | rfl | rfl | rfl | rfl | rfl | rfl <;> rfl
structure ue where
 A:Option Addr
 c:Nat
 ys:List Ex
def RL (w:World)(B:Nat)(P:Option Addr)(l:List ue):Prop:=∃b off,P=some ⟨b,off,none⟩/\b < B/\∀i x,l[i]?=some x->w.cell? ⟨b,off+i,none⟩=some (.slice x.A x.ys.length x.c)/\RE w B x.A x.ys
variable{w':World}{P:Option Addr}{l:List ue}
theorem RL.later(h:RL w w.heap.size P l)(hb:aj w w'):RL w' w'.heap.size P l:=by obtain⟨b,off,h1,h2,h3⟩:=h;exact⟨b,off,h1,Nat.lt_of_lt_of_le h2 hb.size,λ i x hx=>⟨(hb.cell (p:=⟨b,off+i,none⟩) h2).trans (h3 i x hx).1,(h3 i x hx).2.later hb⟩⟩
def lC (l:List ue):Nat:=(l.map λ x=>x.ys.length).sum
theorem Gh (l:List ue)(x:ue):lC (l++ [x])=lC l+x.ys.length:=by simp[lC]
theorem Gi (l:List ue)(k:Nat):lC (l.take k)<=lC l:=by
 have:lC l=lC (l.take k)+lC (l.drop k):=by unfold lC;rw[<- sum_append_nat,<- map_append,take_append_drop]
 omega
theorem uN (P:Option Addr)(c:Nat)(l:List ue)(w:World)(hn:l.length<=1000)(hl:lC l<=1000000)(Kx:RL w w.heap.size P l):
  ar 35 #[.slice P l.length c] w λ e w'=>∃v,e=.returned v/\aI bI 46 7 w' w.heap.size v (l.flatMap ue.ys)/\aj w w':=by
 have HR:=aa Kx;have Aa:=aa hl;clear Kx hl;go_enter Tryz.func35,Tryz.ntmps35;go_wp2_with fail;go_loop [3,11] (λ s KK=>∃i:Nat,i<=l.length/\KK=af i/\s=af (lC (l.take i):Nat)) (λ _ KK=>l.length - (intOf KK).toNat);case atStart=>exact⟨0,Nat.zero_le _,rfl,rfl⟩
 case round=>
  obtain⟨i,hk,rfl,rfl⟩:=hrel;by_cases hlt:i < l.length
  ·obtain⟨b,off,rfl,hb,hc⟩:=id HR.ae;have hx:=(hc i l[i] (getElem?_eq_getElem hlt)).1;have pA:=aa (show lC (l.take (i+1))=lC (l.take i)+l[i].ys.length by rw[take_add_one,getElem?_eq_getElem hlt];exact Gh _ _);have h1:=Gi l (i+1);have h2:=pA.ae;have h3:=Aa.ae;generalize l[i]=x at*;have h4:lC (l.take i)+x.ys.length<=1000000:=by omega
   generalize lC (l.take i)=s0 at*;have t1:decide ((s0:Int)+(x.ys.length:Int)< 0)=false:=decide_eq_false WC;clear hc h1 h2 h3;go_wp2_with fail;go_round;case rel=>exact⟨i+1,hlt,by go_num,by rw[pA.ae];simp⟩
   case measure=>exact Za6
  ·have fL:i=l.length:=by omega
   subst fL;have lS:lC (l.take l.length)=lC l:=by rw[take_length]
   rw[lS];have hgr:=YG (lC l) Aa.ae w;have cb:=aa hgr;clear hgr lS hlt hk;go_wp2_with fail;refine cb.ae.mono ?_;rintro e w1 ⟨v1,rfl,hR,VQ⟩;have yr:=aa hR;have GU:=aa VQ;clear hR VQ cb;go_wp2_with fail;go_loopw [6,27] (λ v KK wr=>∃i:Nat,i<=l.length/\KK=af i/\aI bI 46 7 wr w.heap.size v ((l.take i).flatMap ue.ys)/\aj w wr) (λ _ KK _=>l.length - (intOf KK).toNat);case atStart=>exact⟨0,Nat.zero_le _,rfl,yr.ae,GU.ae⟩
   case round=>
    clear yr GU;obtain⟨i,hk,rfl,hp,hb⟩:=hrel;have HP:=aa hp;clear hp;by_cases hlt:i < l.length
    ·have hRL:=HR.ae.later hb;obtain⟨b,off,rfl,kE,hc⟩:=hRL;have hx:=hc i l[i] (getElem?_eq_getElem hlt);have pA:=aa (show(l.take (i+1)).flatMap ue.ys=(l.take i).flatMap ue.ys++l[i].ys by rw[take_add_one,getElem?_eq_getElem hlt,flatMap_append];simp)
     have hle:((l.take i).flatMap ue.ys).length+l[i].ys.length<=1000000:=by
      have h1:=Gi l (i+1);have h2:lC (l.take (i+1))=lC (l.take i)+l[i].ys.length:=by rw[take_add_one,getElem?_eq_getElem hlt];exact Gh _ _
      have h3:=Aa.ae;have h4:((l.take i).flatMap ue.ys).length=lC (l.take i):=by rw[length_flatMap];rfl
      omega
     generalize l[i]=x at*;generalize (l.take i).flatMap ue.ys=ys at*;obtain⟨hx1,hx2⟩:=hx;have ko:=aa hx2.reads;have hbase:=hb.size;clear hc hx2;obtain⟨i0,kB,hg4,oP,HZ⟩:=info_parts fM;have HI:=aa kB;have Kf:=aa hg4;have Gs:=aa oP;have tN:=aa HZ;clear kB hg4 oP HZ;go_wp2_with (first
      |(at_builtin
        refine cO wr rfl (.tmp 31) (.tmp 32) 23 rfl w.heap.size 46 i0 _ 7 88 Tryz.underlying23 HI.ae Kf.ae Gs.ae tN.ae rfl WC _ ys.length (ys.flatMap bI) rfl HP.ae wr.heap.size x.A x.ys.length x.c (x.ys.flatMap bI) rfl ko.ae (PN _) Tam WC hbase ?_
        intro v4 w4 o4 g4 _
        have b4:=bw HP.ae g4 hbase
        have O4:=aa o4
        clear o4 g4 HP))
     go_roundw;case rel=>refine⟨i+1,hlt,by go_num,?_,hb.trans b4⟩;rw[pA.ae];unfold aI;rw[length_append,flatMap_append];exact O4.ae
     case measure=>exact Za6
    ·have fL:i=l.length:=by omega
     subst fL;rw[take_length] at HP;go_wp2_with fail;go_ret;exact⟨_,rfl,HP.ae,hb⟩
end Go.Proofs.YtndgjggokjickaaGreatDoor
namespace Go.Proofs.YtndgjggokjickaaGreatDoor.R
set_option maxHeartbeats 90000000
set_option maxRecDepth 100000
open Go.ChangeShapes Go.WideShapes Go.ChangeAt Go.RowKit List
set_option linter.unusedVariables false
set_option linter.unusedSimpArgs false
theorem td (m:ZB):(sZ m).toArray.size=28:=rfl
theorem PO (m:ZB):(sZ m).toArray.all (·.oneCell')=true:=by simp[sZ,Ma,ZC,nY,Value.oneCell']
theorem pL:(Tryz.prog.info? 64).map (·.size)=some 28:=by exact ZhU
section
variable {w wr wr':World} {S:Nat->Prop} {v v':Value} {acc l:List Tr} {B:Nat}
end
section
variable {P:Program} {J:List Value->World->Prop} {w0:World} {Q:Exit->Act->World->Prop} {a0:Act} {id:Nat} {o0 o1 o2 o3 o4 o5 o6 o7 o8 o9 qJ:Oper} {q s d0 d1 d2 d3 d4 d5 d6 d7 d8 d9:Tmp} {pq v0 p1 p2 p3 s1 s2 s3:Value} {A1 A2 A3:Addr}
end
end Go.Proofs.YtndgjggokjickaaGreatDoor.R
namespace Go.Proofs.YtndgjggokjickaaGreatDoor
open List
set_option maxHeartbeats 90000000
set_option maxRecDepth 100000
open Go.RowKit
set_option linter.unusedVariables false
def ZN (o0 o1 o2 o3 o4 o5 o6 o7 o8 o9:Oper)(q s d0 d1 d2 d3 d4 d5 d6 d7 d8 d9:Tmp):Bool:=
 (tmpsOf o0== [s])&&(cY [o0,o1,o2,o3,o4,o5,o6,o7,o8,o9] o0 s==none)&&(tmpsOf o1== [q])&&(cY [o0,o1,o2,o3,o4,o5,o6,o7,o8,o9] o1 q==none)&&(tmpsOf o2== [d1])&&(cY [o0,o1,o2,o3,o4,o5,o6,o7,o8,o9] o2 d1==some 1)&&(tmpsOf o3== [d0,d2])&&(cY [o0,o1,o2,o3,o4,o5,o6,o7,o8,o9] o3 d0==some 0)&&(cY [o0,o1,o2,o3,o4,o5,o6,o7,o8,o9] o3 d2==some 2)&&(tmpsOf o4== [q])&&(cY [o0,o1,o2,o3,o4,o5,o6,o7,o8,o9] o4 q==none)&&(tmpsOf o5== [d4])&&(cY [o0,o1,o2,o3,o4,o5,o6,o7,o8,o9] o5 d4==some 4)&&(tmpsOf o6== [d3,d5])&&(cY [o0,o1,o2,o3,o4,o5,o6,o7,o8,o9] o6 d3==some 3)&&(cY [o0,o1,o2,o3,o4,o5,o6,o7,o8,o9] o6 d5==some 5)&&(tmpsOf o7== [q])&&(cY [o0,o1,o2,o3,o4,o5,o6,o7,o8,o9] o7 q==none)&&(tmpsOf o8== [d7])&&(cY [o0,o1,o2,o3,o4,o5,o6,o7,o8,o9] o8 d7==some 7)&&(tmpsOf o9== [d6,d8])&&(cY [o0,o1,o2,o3,o4,o5,o6,o7,o8,o9] o9 d6==some 6)&&(cY [o0,o1,o2,o3,o4,o5,o6,o7,o8,o9] o9 d8==some 8)&&(o0.dst==some d0)&&(o1.dst==some d1)&&(o2.dst==some d2)&&(o3.dst==some d3)&&(o4.dst==some d4)&&(o5.dst==some d5)&&(o6.dst==some d6)&&(o7.dst==some d7)&&(o8.dst==some d8)&&(o9.dst==some d9)&& o0.guard.isNone && o1.guard.isNone && o2.guard.isNone && o3.guard.isNone && o4.guard.isNone && o5.guard.isNone && o6.guard.isNone && o7.guard.isNone && o8.guard.isNone && o9.guard.isNone
section
variable {P:Program} {J:List Value->World->Prop} {w0:World} {Q:Exit->Act->World->Prop} {a0:Act} {id:Nat} {o0 o1 o2 o3 o4 o5 o6 o7 o8 o9 qJ:Oper} {q s d0 d1 d2 d3 d4 d5 d6 d7 d8 d9:Tmp} {pq v0 p1 p2 p3 s1 s2 s3:Value} {A1 A2 A3:Addr}
theorem Mn (t:TypeId)
  (od:∀vs w,J vs w->J vs w.drew) (hJ:J [] w0)
  (hm:P.follows .mixedOrders=true) (bh:dO [o0,o1,o2,o3,o4,o5,o6,o7,o8,o9] a0.tmps.size [o0,o1,o2,o3,o4,o5,o6,o7,o8,o9] 0=true) (hz:eK ([o0,o1,o2,o3,o4,o5,o6,o7,o8,o9]++ [qJ]) [qJ] 10=true) (hch:lx [o0,o1,o2,o3,o4,o5,o6,o7,o8,o9] [3,6,9]=true) (Cn:ZN o0 o1 o2 o3 o4 o5 o6 o7 o8 o9 q s d0 d1 d2 d3 d4 d5 d6 d7 d8 d9=true)
  (hq:a0.eval (.tmp q)=pq) (h0:a0.eval (.tmp s)=v0)
  (Eu:∀ρ w,ρ (.tmp s)=v0->(execOp ρ o0).run P w=.ok (.value v0) w)
  (T8:∀ρ w,ρ (.tmp q)=pq->(execOp ρ o1).run P w=.ok (.value p1) w) (Zn:∀ρ w,ρ (.tmp q)=pq->(execOp ρ o4).run P w=.ok (.value p2) w) (hf3:∀ρ w,ρ (.tmp q)=pq->(execOp ρ o7).run P w=.ok (.value p3) w)
  (Lw:∀vs w,J vs w->w.cell? A1=some s1/\w.cell? A2=some s2/\w.cell? A3=some s3)
  (fq:∀ρ w,ρ (.tmp d1)=p1->w.cell? A1=some s1->(execOp ρ o2).run P w=.ok (.value s1) w) (hl2:∀ρ w,ρ (.tmp d4)=p2->w.cell? A2=some s2->(execOp ρ o5).run P w=.ok (.value s2) w) (uu:∀ρ w,ρ (.tmp d7)=p3->w.cell? A3=some s3->(execOp ρ o8).run P w=.ok (.value s3) w)
  (ast:∀ρ w v x v' w',ρ (.tmp d0)=v->ρ (.tmp d2)=x->(Builtin.append_ #[t,t] t #[v,x]).run P w=.ok v' w'->(execOp ρ o3).run P w=.ok (.value v') w')
  (asu:∀ρ w v x v' w',ρ (.tmp d3)=v->ρ (.tmp d5)=x->(Builtin.append_ #[t,t] t #[v,x]).run P w=.ok v' w'->(execOp ρ o6).run P w=.ok (.value v') w')
  (asv:∀ρ w v x v' w',ρ (.tmp d6)=v->ρ (.tmp d8)=x->(Builtin.append_ #[t,t] t #[v,x]).run P w=.ok v' w'->(execOp ρ o9).run P w=.ok (.value v') w')
  (ha1:∀w,J [] w->∃v' w',(Builtin.append_ #[t,t] t #[v0,s1]).run P w=.ok v' w'/\J [v'] w')
  (ha2:∀a w,J [a] w->∃v' w',(Builtin.append_ #[t,t] t #[a,s2]).run P w=.ok v' w'/\J [a,v'] w')
  (ha3:∀a b w,J [a,b] w->∃v' w',(Builtin.append_ #[t,t] t #[b,s3]).run P w=.ok v' w'/\J [a,b,v'] w')
  (mn:∀a b c W,J [a,b,c] W->wpList P [o0,o1,o2,o3,o4,o5,o6,o7,o8,o9,qJ].toArray Q [qJ] ((((((((((a0.put (some d0) v0).put (some d1) p1).put (some d2) s1).put (some d3) a).put (some d4) p2).put (some d5) s2).put (some d6) b).put (some d7) p3).put (some d8) s3).put (some d9) c) W):
  (Code.region id [o0,o1,o2,o3,o4,o5,o6,o7,o8,o9,qJ].toArray true).wp P Q a0 w0:=by
 simp only[ZN,Bool.and_eq_true,beq_iff_eq,Option.isNone_iff_eq_none] at Cn;obtain⟨⟨⟨⟨⟨⟨⟨⟨⟨⟨⟨⟨⟨⟨⟨⟨⟨⟨⟨⟨⟨⟨⟨⟨⟨⟨⟨⟨⟨⟨⟨⟨⟨⟨⟨⟨⟨⟨⟨⟨⟨⟨t2,m0⟩,t0⟩,s0⟩,t1⟩,m2⟩,t3⟩,m3⟩,m3'⟩,t6⟩,s6⟩,t4⟩,s4⟩,LE⟩,m6⟩,m6'⟩,t7⟩,m7⟩,t8⟩,m8⟩,t9⟩,m9⟩,s5'⟩,e0⟩,e1⟩,e2⟩,e3⟩,e4⟩,e5⟩,e6⟩,e7⟩,e8⟩,e9⟩,g2⟩,g0⟩,LT⟩,g3⟩,g6⟩,KK⟩,g4⟩,g7⟩,g8⟩,g5⟩:=Cn;refine py [qJ] [o0,o1,o2,o3,o4,o5,o6,o7,o8,o9] rfl (λ i=>if i=0 then v0 else if i=1 then p1 else if i=2 then s1 else if i=4 then p2 else if i=5 then s2 else if i=7 then p3 else s3) [3,6,9] J od hJ hm bh hz hch Taa rfl ?_ ?_
 ·refine⟨ZdQ,ZdR,?_,?_,ZdS,?_,?_,?_,?_,?_,trivial⟩
  ·intro ρ w vs hc hG hr;rw[t1] at hr;have r0:=hr.1;simp only[m2] at r0;exact⟨LT,fq ρ w r0 (Lw _ _ hG).1⟩
  ·intro ρ w vs hc hG hr;rw[t3] at hr;have r0:=hr.1;simp only[m3] at r0;have r1:=hr.2.1;simp only[m3'] at r1;refine⟨g3,?_⟩;show vs.length=0->_;intro hl;obtain rfl:=eq_nil_of_length_eq_zero hl;obtain⟨v',w',hrun,hj⟩:=ha1 w hG;exact aq (ast ρ w _ _ v' w' r0 r1 hrun) hj
  ·intro ρ w vs hc hG hr;rw[t4] at hr;have r0:=hr.1;simp only[s4] at r0;exact⟨KK,hl2 ρ w r0 (Lw _ _ hG).2.1⟩
  ·intro ρ w vs hc hG hr;rw[LE] at hr;have r0:=hr.1;simp only[m6] at r0;have r1:=hr.2.1;simp only[m6'] at r1;refine⟨g4,?_⟩;show vs.length=1->_;intro hl
   match vs,hl with
   | [a],_=>have r0:some a=some (ρ (.tmp d3)):=r0;injection r0 with r0;obtain⟨v',w',hrun,hj⟩:=ha2 a w hG;exact aq (asu ρ w _ _ v' w' r0.symm r1 hrun) hj
  ·intro ρ w vs hc hG hr;rw[t7] at hr;have r0:=hr.1;simp only[m7] at r0;exact⟨g7,hf3 ρ w (r0.trans hq)⟩
  ·intro ρ w vs hc hG hr;rw[t8] at hr;have r0:=hr.1;simp only[m8] at r0;exact⟨g8,uu ρ w r0 (Lw _ _ hG).2.2⟩
  ·intro ρ w vs hc hG hr;rw[t9] at hr;have r0:=hr.1;simp only[m9] at r0;have r1:=hr.2.1;simp only[s5'] at r1;refine⟨g5,?_⟩;show vs.length=2->_;intro hl
   match vs,hl with
   | [a,b],_=>have r0:some b=some (ρ (.tmp d6)):=r0;injection r0 with r0;obtain⟨v',w',hrun,hj⟩:=ha3 a b w hG;exact aq (asv ρ w _ _ v' w' r0.symm r1 hrun) hj
 ·intro vs w hl hG
  match vs,hl with
  | [a,b,c],_=>simp only[bF,e0,e1,e2,e3,e4,e5,e6,e7,e8,e9];intro a0' z0 a1 z1 a2 z2 a3 z3 a4 Kx a5 Ly a6 z4 a7 z7 a8 z8 a9 z5;have z0:a0'=v0:=z0;have z1:a1=p1:=z1;have z2:a2=s1:=z2;have z3:some a=some a3:=z3;have Kx:a4=p2:=Kx;have Ly:a5=s2:=Ly;have z4:some b=some a6:=z4;have z7:a7=p3:=z7;have z8:a8=s3:=z8;have z5:some c=some a9:=z5;injection z3 with z3;injection z4 with z4;injection z5 with z5;rw[z0,z1,z2,<- z3,Kx,Ly,<- z4,z7,z8,<- z5];exact mn a b c w hG
end
end Go.Proofs.YtndgjggokjickaaGreatDoor
namespace Go.Proofs.YtndgjggokjickaaGreatDoor.R
set_option maxHeartbeats 90000000
set_option maxRecDepth 100000
open Go.ChangeShapes Go.WideShapes Go.ChangeAt Go.RowKit List
set_option linter.unusedVariables false
set_option linter.unusedSimpArgs false
def U1:Array Value:=(sZ {}).toArray
section
variable {ρ:dv} {w wr w2:World} {big:Bool} {P:Ps St} {σ zr:cq} {q b:Nat} {m:ZB} {d:St}
end
section
variable {ρ:dv} {w wr w2:World} {big:Bool} {P:Ps St} {σ zr:cq} {q b:Nat} {m:ZB} {d:St}
end
theorem Gj (w:World)(q:Nat)(cs:Array Value):w.grownBy (w.setRow q cs) (some q):=
 ⟨rfl,rfl,rfl,by simp,λ i hi hne=>setRow_other w q i cs (λ e=>hne Tbb)⟩
variable{B q:Nat}
theorem SH(w:World)(hq:q < B)(cs:Array Value):∀b,jf B w b->(∀o,(w.setRow q cs).cell? ⟨b,o,none⟩=w.cell? ⟨b,o,none⟩)/\jf B (w.setRow q cs) b:=λ b hb=>
 ⟨cell_of_heap (setRow_other w q b cs (by have:=hb.1;omega)),hb.1,by rw[size_setRow];exact hb.2⟩
variable{w:World}{T:TypeId}{old:Array Value}
theorem _root_.Go.Proofs.YtndgjggokjickaaGreatDoor.aC.row(h:aC w q T old)(cs:Array Value):aC (w.setRow q cs) q T cs:=setRow_heap w q old cs T (0,0) h
variable{b:Nat}
theorem _root_.Go.Proofs.YtndgjggokjickaaGreatDoor.aC.abf(h:aC w b T old)(hq:b≠q)(cs:Array Value):aC (w.setRow q cs) b T old:=(setRow_other w q b cs hq).trans h
variable{P:Program}{fn:Func}{u v:Tmp}{ty:TypeId}
theorem IX{p:Tmp} (h:fn.results= #[.cell p ty,.tmp u,.tmp v])(tmps:Array Value)(w:World)(g:Nat)(t:TypeId)(cs:Array Value)(fr:Nat×Nat)(d:TypeDesc)(x y:Value)
  (hp:tmps.getD p undef=aw g) (hg:w.heap[g]?=some (.cells cs t fr))
  (hu:P.underlying ty=some d) (hd:(match d with | .struct _ | .array _ _=>true | _=>false)=true) (hi:(P.info? ty).map (·.size)=some cs.size) (hx:tmps.getD u undef=x) (hy:tmps.getD v undef=y):
  (results fn tmps).run P w=.ok (.tuple #[.agg cs,x,y]) w:=by
 have hp':tmps[p]?.getD undef=aw g:=by simpa using hp
 have hx':tmps[u]?.getD undef=x:=by simpa using hx
 have hy':tmps[v]?.getD undef=y:=by simpa using hy
 simp[results,h,hp',hx',hy',asAddr,Sem.run_bind,run_loadVar_row w g t ty cs fr d hg hu hd hi,Result.andThen]
variable{ρ:dv}{W:World}{σ:cq}{big:Bool}
theorem eF.row(h:eF ρ W w σ big)(hW:ρ.g < W.heap.size)(hq:W.heap.size<=q)(cs:Array Value):eF ρ W (w.setRow q cs) σ big:=
 h.own hW (Gj w q cs) (λ G e=>by injection e with e;omega)
variable{gl:Nat}{l:List rJ}
theorem dv.start{c:Nat} (Aj:gl < w.heap.size)(hc:∀k t,l[k]?=some t->w.cell? ⟨gl,k*4,none⟩=some (ag t.w.k)/\w.cell? ⟨gl,k*4+1,none⟩=some (.string ⟨t.w.s.toArray⟩)/\w.cell? ⟨gl,k*4+2,none⟩=some (af t.w.n)/\w.cell? ⟨gl,k*4+3,none⟩=some (af t.p))
  (he:zk (l.map (·.w))) (hlen:l.length<=4097) (hwd:∀t∈l,aaY t.w):
  (⟨w.heap.size,gl,c,l⟩:dv).at (w.alloc (.cells #[aF gl l.length c,af 0,af (-1),.bool false] 169)) (.good (l.map (·.w))) false:=by
 have hb:=aC.new w 169 #[aF gl l.length c,af 0,af (-1),.bool false];refine⟨?_,Aj,?_,⟨suffix_refl _,he⟩,?_,λ t ht=>(hwd t ht).1⟩
 ·have e:(⟨w.heap.size,gl,c,l⟩:dv).cells (.good (l.map (·.w))) false= #[aF gl l.length c,af 0,af (-1),.bool false]:=by simp[dv.cells,dv.n,dv.bad,cq.left]
  rw[e];exact hb
 ·intro k t hk;have c:=λ o=>World.cell?_alloc_lt w (.cells #[aF gl l.length c,af 0,af (-1),.bool false] 169) ⟨gl,o,none⟩ Aj
  obtain⟨h1,h2,h3,h4⟩:=hc k t hk;exact⟨(c _).trans h1,(c _).trans h2,(c _).trans h3,(c _).trans h4⟩
 ·show l.length<=5000;omega
theorem Mo(w:World)(o:Obj)(cs:Array Value):∀b,jf B w b->(∀i,((w.alloc o).setRow w.heap.size cs).cell? ⟨b,i,none⟩=w.cell? ⟨b,i,none⟩)/\jf B ((w.alloc o).setRow w.heap.size cs) b:=λ b hb=>
 ⟨cell_of_heap ((setRow_other _ w.heap.size b cs (by have:=hb.2;omega)).trans (Below.heap_alloc w o b hb.2)),hb.1,by rw[size_setRow];have:=hb.2;simp;omega⟩
section
variable {t:Wd} {r:dI}
end
section
variable {α:Type} {E:El α} {T:TypeId} {lng:α->Bool} {el:Ps α} {ρ:dv} {w wr w8:World} {big bg:Bool} {P:Ps St} {σ0 σ zr:cq} {q b i k:Nat} {m:ZB} {d:St} {w1 gI w2 W:World} {y:E.β} {v v':Value} {acc:List α} {cs:Array Value}
end
end Go.Proofs.YtndgjggokjickaaGreatDoor.R
namespace Go.Proofs.YtndgjggokjickaaGreatDoor
variable{p:Prop}
set_option maxHeartbeats 90000000
set_option maxRecDepth 100000
open Go.ChangeShapes Go.WideShapes Go.ChangeAt Go.RowKit List
set_option linter.unusedVariables false
set_option linter.unusedSimpArgs false
def Gk (v:R.Val):Val:=⟨v.k,v.n,v.s⟩
mutual
def qD:R.Tr->Tr
 | .mk op v name width args=> .mk op (Gk v) name width (gL args)
def gL:List R.Tr->List Tr
 | []=> []
 | t::ts=>qD t::gL ts
end
def Ez (y:R.Ex):Ex:=⟨y.op,Gk y.v,y.name,y.width,y.A,y.n,y.c⟩
theorem lD:∀ts:List R.Tr,(gL ts).length=ts.length
 | []=>by simp[gL]
 | t::ts=>by simp[gL,lD ts]
variable{w:World}{S:Nat->Prop}
theorem adS{A:Option Addr} {ys:List R.Ex}(h:R.RL R.bI 7 w S A ys):R8 w S A (ys.map Ez):=by
 rcases h with rfl |⟨b,off,Kx,h2,h3⟩
 ·exact .inl rfl
 ·refine .inr ⟨b,off,Kx,h2,λ i x h1=>?_⟩;rw[getElem?_map] at h1
  cases hy:ys[i]? with
  | none=>rw[hy] at h1;cases h1
  | some y=>rw[hy] at h1;injection h1 with h1;subst h1;have k:=h3 i y;exact⟨k 0 _ hy rfl,k 1 _ hy rfl,k 2 _ hy rfl,k 3 _ hy rfl,k 4 _ hy rfl,k 5 _ hy rfl,k 6 _ hy rfl⟩
mutual
theorem SJ {w:World} {S:Nat->Prop}:∀(t:R.Tr) (y:R.Ex),t.at_ w S y->(qD t).at_ w S (Ez y)
 | .mk op v name width args,y,h=>by unfold R.Tr.at_ at h;obtain⟨h1,h2,h3,h4,h5,ys,h6,h7⟩:=h;unfold qD Tr.at_;exact⟨h1,by rw[<- h2];rfl,h3,h4,by rw[lD];exact h5,ys.map Ez,adS h6,yt args ys h7⟩
theorem yt {w:World} {S:Nat->Prop}:∀(ts:List R.Tr) (ys:List R.Ex),R.Tr.aQ w S ts ys->Tr.aQ w S (gL ts) (ys.map Ez)
 | [],ys,h=>by unfold R.Tr.aQ at h;subst h;unfold gL Tr.aQ;rfl
 | t::ts,ys,h=>by unfold R.Tr.aQ at h;obtain⟨y,ys',rfl,h1,h2⟩:=h;unfold gL Tr.aQ;exact⟨Ez y,ys'.map Ez,rfl,SJ t y h1,yt ts ys' h2⟩
end
theorem Mp:∀ {ts:List R.Tr} {ys:List R.Ex},R.mM (R.Tr.at_ w S) ts ys->R.Tr.aQ w S ts ys
 | _,_,.nil=>by unfold R.Tr.aQ;rfl
 | _,_,.cons h k=>by unfold R.Tr.aQ;exact⟨_,_,rfl,h,Mp k⟩
variable{n:Nat}
theorem Cy{A:Option Addr}  {l:List R.Tr}(h:R.IC.lies w (Old w) A n l):fU w (gL l) A n:=by obtain⟨h1,ys,h2,h3⟩:=h;exact⟨by rw[lD];exact h1,ys.map Ez,adS h2,yt l ys (Mp h3)⟩
variable{γ:Type}
theorem SK(g:γ->Value):∀ {l:List (R.Tr×γ)} {ys:List (R.Ex×γ)},R.mM (λ x y=>x.1.at_ w S y.1/\y.2=x.2) l ys->Tr.aQ w S ((l.map λ x=>(qD x.1,g x.2)).map (·.1)) ((ys.map λ y=>(Ez y.1,g y.2)).map (·.1))/\(ys.map λ y=>(Ez y.1,g y.2)).map (·.2)=(l.map λ x=>(qD x.1,g x.2)).map (·.2)
 | _,_,.nil=>⟨by simp only[map_nil];unfold Tr.aQ;rfl,rfl⟩
 | _,_,.cons h k=>by obtain⟨k1,k2⟩:=SK g k;simp only[map_cons];refine⟨?_,by rw[k2,h.2]⟩;unfold Tr.aQ;exact⟨_,_,rfl,SJ _ _ h.1,k1⟩
theorem ZO(g:γ->Value) {A:Option Addr}  {l:List (R.Tr×γ)} {ys:List (R.Ex×γ)}(hn:n=l.length)(h:R.RL (λ y:R.Ex×γ=>R.bI y.1++ [g y.2]) 8 w (Old w) A ys)(h2:R.mM (λ x y=>x.1.at_ w (Old w) y.1/\y.2=x.2) l ys):eQ w (l.map λ x=>(qD x.1,g x.2)) A n:=by
 obtain⟨k1,k2⟩:=SK g h2;refine⟨by rw[length_map];exact hn,ys.map λ y=>(Ez y.1,g y.2),?_,k2,k1⟩;rcases h with rfl |⟨b,off,Kx,h2,h3⟩
 ·exact .inl rfl
 ·refine .inr ⟨b,off,Kx,h2,λ i x h1=>?_⟩;rw[getElem?_map] at h1
  cases hy:ys[i]? with
  | none=>rw[hy] at h1;cases h1
  | some y=>rw[hy] at h1;injection h1 with h1;subst h1;have k:=h3 i y;exact⟨⟨k 0 _ hy rfl,k 1 _ hy rfl,k 2 _ hy rfl,k 3 _ hy rfl,k 4 _ hy rfl,k 5 _ hy rfl,k 6 _ hy rfl⟩,k 7 _ hy rfl⟩
theorem SL:∀ {l:List Int} {ys:List Int},R.mM (λ x y=>y=x) l ys->ys=l
 | _,_,.nil=>rfl
 | _,_,.cons h k=>by rw[h,SL k]
def fl (d:R.Qu):Qy:=⟨d.items.map λ x=>(qD x.1,x.2),d.bZ,d.only,gL d.cK,gL d.group,gL d.having,d.order.map λ x=>(qD x.1,x.2),d.dz⟩
def PQ (y:R.yl):QL:=⟨⟨y.items.A,y.items.n,y.items.c⟩,⟨y.cK.A,y.cK.n,y.cK.c⟩,⟨y.group.A,y.group.n,y.group.c⟩,⟨y.having.A,y.having.n,y.having.c⟩,⟨y.order.A,y.order.n,y.order.c⟩,⟨y.dz.A,y.dz.n,y.dz.c⟩⟩
variable{d:R.Qu}
theorem SM{y:R.yl}(h:d.at_ w (Old w) y):rD w (fl d) (PQ y)/\R.quV y=tJ (fl d) (PQ y):=by
 refine⟨⟨?_,Cy h.cK,Cy h.group,Cy h.having,?_,?_⟩,?_⟩
 ·obtain⟨h1,ys,h2,h3⟩:=h.items;have k:=ZO (λ s:ByteArray=>Value.string s) h1 h2 h3;unfold fl;rw[map_map];exact k
 ·obtain⟨h1,ys,h2,h3⟩:=h.order;have k:=ZO (λ s:Bool=>Value.bool s) h1 h2 h3;unfold fl;rw[map_map];exact k
 ·obtain⟨h1,ys,h2,h3⟩:=h.dz;have k:=SL h3;subst k;refine⟨h1,?_⟩;rcases h2 with h2 |⟨b,off,h2,h3,h4⟩
  ·exact .inl h2
  ·refine .inr ⟨b,off,h2,h3,λ i x hx=>?_⟩;have:=h4 i x 0 _ hx rfl;rw[show off+i*R.Sa.size+0=off+i by show off+i*1+0=off+i;omega] at this;exact this
 ·unfold R.quV R.Ma tJ fl PQ R.nY;rw[h.bZ,h.only]
def df (q:Nat):List Value:=[aw q]
theorem ZP:(Tryz.prog.info? 145).map (λ i=>(i.zero,i.size,i.bytes))=some (some (.pointer none),1,8):=by exact ZhU
structure dG (w:World) (B:Nat) (qs:List Nat) (ss:List St):Prop where
 len:qs.length=ss.length
 at_:∀(i:Nat) (q:Nat) (s:St),qs[i]?=some q->ss[i]?=some s->cF w q s
 low:∀q∈qs,B<=q/\q < w.heap.size
 apart:qs.Nodup
variable{B:Nat}
theorem dG.nil:dG w B [] []:=⟨rfl,(λ i q s h _=>by simp at h),(λ q h=>by cases h),List.Pairwise.nil⟩
variable{w':World}{qs:List Nat}{ss:List St}
theorem dG.keep(h:dG w B qs ss)(hs:w.heap.size<=w'.heap.size)(hk:∀q∈qs,w'.heap[q]?=w.heap[q]?):dG w' B qs ss:=
 ⟨h.len,λ i q s hq hs2=>(hk q (mem_of_getElem? hq)).trans (h.at_ i q s hq hs2),λ q hq=>⟨(h.low q hq).1,Nat.lt_of_lt_of_le (h.low q hq).2 hs⟩,h.apart⟩
theorem dG.later(h:dG w B qs ss)(hb:aj w w'):dG w' B qs ss:=
 h.keep hb.size λ q hq=>hb.block q (h.low q hq).2
variable{q:Nat}{s:St}
theorem dG.snoc(h:dG w B qs ss)(hs:cF w q s)(hB:B<=q)(hq:q∉qs)(hl:q < w.heap.size):dG w B (qs++ [q]) (ss++ [s]):=by
 refine⟨by simp[h.len],λ i r t hr ht=>?_,λ r hr=>?_,?_⟩
 ·rcases Nat.lt_or_ge i qs.length with hi | hi
  ·rw[getElem?_append_left hi] at hr;rw[getElem?_append_left TaL] at ht;exact h.at_ i r t hr ht
  ·rw[getElem?_append_right hi] at hr;rw[getElem?_append_right TaL,<- h.len] at ht
   have h0:i - qs.length=0:=by
    rcases Nat.lt_or_ge 0 (i - qs.length)with h1 | h1
    ·rw[getElem?_eq_none (by simp only[length_singleton];omega)] at hr;cases hr
    ·omega
   rw[h0] at hr ht;simp at hr ht;subst hr ht;exact hs
 ·rcases List.mem_append.1 hr with hr | hr
  ·exact h.low r hr
  ·rw[mem_singleton] at hr;subst hr;exact⟨hB,hl⟩
 ·rw[nodup_append];exact⟨h.apart,by simp,λ a ha b hb e=>by rw[mem_singleton] at hb;subst hb e;exact hq ha⟩
variable{base:Nat}{v:Value}{l:List Nat}
theorem dG.ne(h:dG w B qs ss)(ho:aI df 145 1 w base v l):∀q∈qs,v.ownBlock≠some q:=λ q hq=>by obtain⟨i,hi,he⟩:=getElem_of_mem hq;have h1:=h.at_ i q (ss[i]' TaL) Tay (getElem?_eq_getElem _);exact ho.other h1 Taa
theorem dG.own(h:dG w B qs ss)(ho:aI df 145 1 w base v l)(hg:w.grownBy w' v.ownBlock):dG w' B qs ss:=
 h.keep hg.size λ q hq=>hg.block q (h.low q hq).2 (Ne.symm (h.ne ho q hq))
variable{g i:Nat}{u:Value}
theorem dG.set(h:dG w B qs ss)(hg:g∉qs):dG (w.setCell ⟨g,i,none⟩ u) B qs ss:=
 h.keep Tac λ q hq=>Below.heap_setCell w ⟨g,i,none⟩ u q (λ e=>hg (by have e2:q=g:=e;rw[<- e2];exact hq))
theorem Gl (gp:Nat)(ys:List Ex)(AA:Option Addr)(ac:Nat)(KA:Option Addr)(kn kc:Nat)(w:World)(hn:ys.length<=1000000)(sQ:gp < w.heap.size)(hpa:w.cell? ⟨gp,9,none⟩=some (.slice AA ys.length ac))(hA:RE w w.heap.size AA ys)(S2:∀y∈ys,isAgg y.op=true):
  ar 63 #[aw gp,.slice KA kn kc] w λ e w'=>∃g sv qs,e=.returned (aw g)/\w.heap.size<=g/\g∉qs/\aC w' g 141 #[.slice KA kn kc,sv]/\aI df 145 1 w' w.heap.size sv qs/\dG w' w.heap.size qs (ys.map λ y=>fh y.op)/\aj w w':=by
 have HX:=aC.new w 141 #[.slice KA kn kc,az];have hb0:=ah w (.cells #[.slice KA kn kc,az] 141);have HPA:=aa ((hb0.cell (p:=⟨gp,9,none⟩) sQ).trans hpa);have Kb:=aa (Nat.lt_of_lt_of_le sQ hb0.size);have HA:=aa hA;have HAG:=aa S2;have HSW:=aa (show w.heap.size <(w.alloc (.cells #[.slice KA kn kc,az] 141)).heap.size by rw[World.size_alloc];omega);clear sQ hpa hA S2;go_enter Tryz.func63,Tryz.ntmps63;go_upto_region 2 with fail;generalize w.alloc _=W1 at*;obtain⟨g,hg⟩:∃g,g=w.heap.size:=⟨_,rfl⟩;rw[<- hg] at HX ⊢;have wI:=aa hg;have BN:=aa hb0;have KK:=aa HX;clear hg hb0 HX;have hpa:=HPA.ae;go_wp2_with fail;clear hpa;go_loopw [18] (λ i wr=>∃(j:Nat) (sv:Value) (qs:List Nat),j<=ys.length/\i=af j/\g∉qs/\aC wr g 141 #[.slice KA kn kc,sv]/\aI df 145 1 wr W1.heap.size sv qs/\dG wr W1.heap.size qs ((ys.take j).map λ y=>fh y.op)/\aj w wr/\W1.heap.size<=wr.heap.size) (λ i _=>ys.length - (intOf i).toNat);case atStart=>exact⟨0,_,[],Nat.zero_le _,rfl,by simp,KK.ae,aI.nil,.nil,BN.ae,Nat.le_refl _⟩
 case round=>
  obtain⟨j,sv,qs,hk,rfl,NJ,hG,hO,hS,hb,hs⟩:=hrel;have MQ:=aa hO;have E9:=aa hS;have HGQ:=aa NJ;have jg:=aa hG;clear hO hS NJ hG KK BN;by_cases hlt:j < ys.length
  ·obtain⟨b,off,rfl,kE,hex⟩:=(HA.ae.below hb).at_ hlt;have S2:=HAG.ae ys[j] (getElem_mem hlt);have pA:=aa (show(ys.take (j+1)).map (λ y=>fh y.op)=(ys.take j).map (λ y=>fh y.op)++ [fh ys[j].op] by rw[take_add_one,getElem?_eq_getElem hlt,map_append];rfl);have SG:qs.length<=1000000:=by have:=E9.ae.len;simp at this;omega
   generalize ys[j]=y at*;generalize (ys.take j).map (λ y=>fh y.op)=ss at*;unfold cy at hex;go_upto_region 5 with fail;have k1:=aC.new wr 46 (ay y);have MI:=ah wr (.cells (ay y) 46);have HG:=k1.cell 0;simp only[getElem?_toArray,getElem?_cons_zero] at HG;have HNW:=aa (aay y.op (wr.alloc (.cells (ay y) 46)) S2);have bK:g < wr.heap.size:=jg.ae.lt;generalize wr.alloc _=W2 at*;obtain⟨g8,WT⟩:∃g8,g8=wr.heap.size:=⟨_,rfl⟩;rw[<- WT] at HG ⊢;clear WT k1 hex S2;go_wp2_with fail;refine HNW.ae.mono ?_;rintro e w6 ⟨p,hp,rfl,hst,b1⟩;have b6:=ai.then MI b1;have Ea:wr.heap.size<=p:=Nat.le_trans MI.size hp;clear MI b1 HNW HG hp;go_upto_region 6 with fail;have bN:=ah w6 (.cells #[aw p] 145);have hGN:=aC.new w6 145 #[aw p];have hL:=ai.then b6 bN;have MA:=aa (MQ.ae.later hL);have MR:=aa (E9.ae.later hL);have Cz:=aa (jg.ae.later hL);have tq:=aa (aC.later hst bN);have Mq:=aa (ai.then hb hL);have hbase:W1.heap.size<=(w6.alloc (.cells #[aw p] 145)).heap.size:=Nat.le_trans hs hL.size;have Gm:=aa hGN;have hne:=MA.ae.other Cz.ae Taa;have hnp:=MA.ae.other tq.ae Taa;have nV:=aa hne;have HNP:=aa hnp;have hpl:=tq.ae.lt;have Pu:=aa hpl;have hc1:=(jg.ae.later b6).cell 1;simp only[Uaa] at hc1;have Sr:p≠g:=by omega
   have Ro:p∉qs:=λ h=>by have:=(E9.ae.low p h).2;omega
   have HPG:=aa Sr;have HPQ:=aa Ro;have HWP:=aa (Nat.le_trans hs Ea);clear hGN hne hnp hpl bN b6 hL E9 jg hst Sr Ro MQ bK;go_wp2_with (first
    |(at_builtin
      refine aV rfl (.tmp 32) (.tmp 34) 139 rfl _ 8 Tryz.underlying139 ZP rfl WC p rfl TaY rfl MA.ae w6.heap.size rfl Gm.ae WC WC hbase ?_
      intro v4 w4 K9 g4
      obtain⟨A4,Qo,hv4,_⟩:=K9.reads
      rw[length_append,length_singleton] at hv4
      subst hv4
      have G4:=aa (Cz.ae.grown g4 (Ne.symm nV.ae))
      have gc:=G4.ae.cell 1
      have gf:=G4.ae.frozen 1
      simp only[Uaa] at gc
      have S4:=aa (MR.ae.own MA.ae g4)
      have P4:=aa (aC.grown tq.ae g4 (Ne.symm HNP.ae))
      have B4:=aa (bw MA.ae g4 hbase)
      have s4:=aa g4.size
      have O4:=aa K9
      clear K9 g4))
   go_roundw
   case rel=>
    have hq4:g∉qs++ [p]:=by
     rw[mem_append,mem_singleton];rintro(h | h)
     ·exact HGQ.ae h
     ·exact HPG.ae h.symm
    have hn4:=O4.ae.other G4.ae Taa;refine⟨j+1,_,qs++ [p],hlt,by go_num,hq4,G4.ae.aW 1 _,O4.ae.keep λ Kx Lw=>Below.heap_setCell w4 ⟨g,1,none⟩ _ Kx (λ e=>hn4 TaU),?_,(Mq.ae.trans (B4.ae.mono (Nat.le_of_lt HSW.ae))).setCell TaR _,?_⟩
    ·rw[pA.ae];exact(S4.ae.snoc P4.ae HWP.ae HPQ.ae (aC.lt P4.ae)).set hq4
    ·have h1:=s4.ae;rw[World.size_setCell];exact Nat.le_trans hbase h1
   case measure=>exact Za6
  ·have fL:j=ys.length:=by omega
   subst fL;rw[take_length] at E9;go_wp2_with fail;go_ret;exact⟨g,sv,qs,rfl,by rw[wI.ae];exact Nat.le_refl _,HGQ.ae,jg.ae,MQ.ae.down (Nat.le_of_lt HSW.ae),⟨E9.ae.len,E9.ae.at_,λ q hq=>⟨Nat.le_trans (Nat.le_of_lt HSW.ae) (E9.ae.low q hq).1,(E9.ae.low q hq).2⟩,E9.ae.apart⟩,hb⟩
def UU (base:Nat)(l:List Val)(w:World)(e:Ending)(w':World):Prop:=∃v,e=.returned v/\aI aX 44 3 w' base v l/\aj w w'
theorem val_one (l:List Val):∀u∈l.flatMap aX,u.oneCell'=true:=by
 intro u hu;obtain⟨v,_,hv⟩:=List.mem_flatMap.1 hu;simp[aX] at hv;rcases hv with rfl | rfl | rfl <;> rfl
theorem UW (w:World)(base:Nat)(hb:base<=w.heap.size):aI aX 44 3 (w.alloc (.cells #[] 44)) base (aF w.heap.size 0 0) []:=
 ⟨by simp,.inr ⟨w.heap.size,0,#[],rfl,hb,heap_alloc_new w _,Nat.le_refl _,by simp,by simp,by simp⟩⟩
theorem uO (A:Option Addr)(c:Nat)(l:List Val)(w:World)(h:RV w w.heap.size A l)(hl:l.length<=1000):
  ar 37 #[.slice A l.length c] w (UU w.heap.size l w):=by
 have HR:=aa h;clear h
 cases A with
 | none=>
   have hl0:l=[]:=by
    rcases HR.ae with h |⟨b,off,h,_⟩
    ·exact h
    ·cases h
   subst hl0;have hnil:(binOp .eql 38 (.slice none 0 c) (az)).run Tryz.prog w=.ok (.bool true) w:=Go.Lib.run_eql_slice_nil w 38 44 none 0 c 0 0 Tryz.underlying38;go_enter Tryz.func37,Tryz.ntmps37;exact Zis
 | some ad=>
   have hnil:(binOp .eql 38 (.slice (some ad) l.length c) (az)).run Tryz.prog w=.ok (.bool false) w:=Go.Lib.run_eql_slice_nil w 38 44 (some ad) l.length c 0 0 Tryz.underlying38;obtain⟨i0,kB,hg4,oP,HZ⟩:=info_parts lT;have bb:=ah w (.cells #[] 44);have HO:=aa (UW w w.heap.size (Nat.le_refl _));have WV:=aa (HR.ae.later bb).reads;have hsz:w.heap.size<=(w.alloc (.cells #[] 44)).heap.size:=bb.size;have HI:=aa kB;have Kf:=aa hg4;have Gs:=aa oP;have tN:=aa HZ;clear kB hg4 oP HZ;go_enter Tryz.func37,Tryz.ntmps37;go_wp2_with (first
    |(at_builtin
      refine cO _ rfl (.tmp 5) (.tmp 6) 38 rfl w.heap.size 44 i0 _ 3 32 Tryz.underlying38 HI.ae Kf.ae Gs.ae tN.ae rfl WC _ 0 [] rfl HO.ae _ (some ad) l.length c (l.flatMap aX) rfl WV.ae (val_one l) Tam WC hsz ?_
      intro v2 w2 o2 g2 _
      have O2:=aa o2
      have G2:=aa g2
      clear o2 g2))
   have b2:=bw HO.ae G2.ae hsz;have O3:aI aX 44 3 w2 w.heap.size v2 l:=by have:=O2.ae;unfold aI;simpa using this
   go_ret;exact⟨_,rfl,O3,bb.trans b2⟩
theorem rT:(Tryz.prog.info? 113).map (λ i=>(i.zero,i.size,i.bytes))=some (some (.agg #[au,ag 0]),2,24):=by exact ZhU
theorem adT:∀ys:List aZ,(ys.flatMap aU).length=ys.length*2
 | []=>rfl
 | y::ys=>by rw[flatMap_cons,length_append,adT ys,length_cons];show 2+_=_;omega
theorem RC.reads{A:Option Addr} {l:List aZ}(h:RC w B A l):Reads w B 2 A l.length (l.flatMap aU):=by
 refine⟨adT l,λ hn=>?_⟩;rcases h with h |⟨b,off,hA,hb,hc⟩
 ·subst h;simp at hn
 ·refine⟨⟨b,off,none⟩,hA,hb,λ j u hu=>?_⟩;obtain⟨k,r,x,rfl,hr,h2,h3⟩:=Cx (f:=aU) (size:=2) (λ _=>rfl) WC l j u hu;rw[PM,<- Nat.add_assoc];have hx:=hc k x h2;unfold mW at hx;unfold aU at h3
  match r,hr with
  | 0,_=>rw[<- h3];exact hx.1
  | 1,_=>rw[<- h3];exact hx.2
def IY (base:Nat)(l:List aZ)(w:World)(e:Ending)(w':World):Prop:=∃v,e=.returned v/\aI aU 113 2 w' base v l/\aj w w'
theorem abh (l:List aZ):∀u∈l.flatMap aU,u.oneCell'=true:=by
 intro u hu;obtain⟨v,_,hv⟩:=List.mem_flatMap.1 hu;simp[aU] at hv;rcases hv with rfl | rfl <;> rfl
theorem UY (w:World)(base:Nat)(hb:base<=w.heap.size):aI aU 113 2 (w.alloc (.cells #[] 113)) base (aF w.heap.size 0 0) []:=
 ⟨by simp,.inr ⟨w.heap.size,0,#[],rfl,hb,heap_alloc_new w _,Nat.le_refl _,by simp,by simp,by simp⟩⟩
theorem IZ (A:Option Addr)(c:Nat)(l:List aZ)(w:World)(h:RC w w.heap.size A l)(hl:l.length<=1000):
  ar 55 #[.slice A l.length c] w (IY w.heap.size l w):=by
 have HR:=aa h;clear h
 cases A with
 | none=>
   have hl0:l=[]:=by
    rcases HR.ae with h |⟨b,off,h,_⟩
    ·exact h
    ·cases h
   subst hl0;have hnil:(binOp .eql 28 (.slice none 0 c) (az)).run Tryz.prog w=.ok (.bool true) w:=Go.Lib.run_eql_slice_nil w 28 113 none 0 c 0 0 Tryz.underlying28;go_enter Tryz.func55,Tryz.ntmps55;exact Zis
 | some ad=>
   have hnil:(binOp .eql 28 (.slice (some ad) l.length c) (az)).run Tryz.prog w=.ok (.bool false) w:=Go.Lib.run_eql_slice_nil w 28 113 (some ad) l.length c 0 0 Tryz.underlying28;obtain⟨i0,kB,hg4,oP,HZ⟩:=info_parts rT;have bb:=ah w (.cells #[] 113);have HO:=aa (UY w w.heap.size (Nat.le_refl _));have WV:=aa (HR.ae.later bb).reads;have hsz:w.heap.size<=(w.alloc (.cells #[] 113)).heap.size:=bb.size;have HI:=aa kB;have Kf:=aa hg4;have Gs:=aa oP;have tN:=aa HZ;clear kB hg4 oP HZ;go_enter Tryz.func55,Tryz.ntmps55;go_wp2_with (first
    |(at_builtin
      refine cO _ rfl (.tmp 5) (.tmp 6) 28 rfl w.heap.size 113 i0 _ 2 24 Tryz.underlying28 HI.ae Kf.ae Gs.ae tN.ae rfl WC _ 0 [] rfl HO.ae _ (some ad) l.length c (l.flatMap aU) rfl WV.ae (abh l) Tam WC hsz ?_
      intro v2 w2 o2 g2 _
      have O2:=aa o2
      have G2:=aa g2
      clear o2 g2))
   have b2:=bw HO.ae G2.ae hsz;have O3:aI aU 113 2 w2 w.heap.size v2 l:=by have:=O2.ae;unfold aI;simpa using this
   go_ret;exact⟨_,rfl,O3,bb.trans b2⟩
def Mine (w:World)(base:Nat)(cl:List aN):Prop:=∀r∈cl,aI aX 44 3 w base r.v r.l
variable{cl:List aN}
theorem Mine.later(h:Mine w base cl)(hb:aj w w'):Mine w' base cl:=λ r hr=>(h r hr).later hb
variable{base':Nat}{cl':List aN}{ov:Value}
theorem Mine.grown(h:Mine w base cl)(ho:aI bX 38 1 w base' ov cl')(hg:w.grownBy w' ov.ownBlock):Mine w' base cl:=λ r hr=>by
 refine(h r hr).keep λ q hq=>?_
 obtain⟨h1,h2,cur,h3⟩:=(h r hr).lt hq;exact hg.block q h1 λ e=>ho.other (show aC w q 44 cur from h3) Taa e.symm
theorem SN(h:aI bX 38 1 w base v cl)(hm:Mine w base cl):∃A c,v=.slice A cl.length c/\RR w w.heap.size A cl:=by
 obtain⟨A,c,hv,hc⟩:=ej (f:=bX) (size:=1) (λ _=>rfl) h;refine⟨A,c,hv,?_⟩;rcases hc with hc |⟨g,hA,hg,hc⟩
 ·exact .inl hc
 ·refine .inr ⟨g,0,hA,hg,λ i r hr=>⟨?_,?_⟩⟩
  ·have:=hc i r 0 _ hr WC rfl;exact Zfa
  ·obtain⟨A2,c2,e1,e2⟩:=Hr (hm r (mem_of_getElem? hr));unfold aN.v at e1;injection e1 with e1;rw[e1];exact e2
theorem pM(h:w.grownBy w' none):aj w w':=⟨h.os,h.tape,h.output,h.size,λ k hk=>h.block k hk Tac⟩
theorem zgW.KbF(h:p:=by
 have Kx:cl.length<=1000000:=by have h1:=congrArg List.length HE.ae;simp only[length_map,length_take] at h1;omega
 generalize aL[i]=r at*;have ko:=aa (tO.more hB.size).reads;have hbase:=hB.size;obtain⟨i0,kB,hz0,hz1,hz2⟩:=info_parts lT;have HI:=aa kB;have U0:=aa hz0;have vp:=aa hz1;have tN:=aa hz2;have hnil:wr.ownsRow w.heap.size 44 3 (az) 0 []:=⟨rfl,.inl ⟨rfl,rfl⟩⟩;have Zc:=aa hnil;clear kB hz0 hz1 hz2 tO hnil;go_wp2_with (first
  |(at_builtin
    refine cO wr rfl (.const (az)) (.tmp 15) 38 rfl w.heap.size 44 i0 _ 3 32 Tryz.underlying38 HI.ae U0.ae vp.ae tN.ae rfl WC _ 0 [] rfl Zc.ae wr.heap.size r.A r.l.length r.c (r.l.flatMap aX) rfl ko.ae (val_one r.l) Tam WC hbase ?_
    intro v2 w2 o2 g2 _
    have b2:=pM g2
    have O2:aI aX 44 3 w2 w.heap.size v2 r.l:=by
     unfold aI
     simpa using o2
    obtain⟨A2,c2,hv2,_⟩:=O2.reads
    subst hv2
    have O2H:=aa O2
    have B2:=aa b2
    clear o2 g2 O2 b2)
  |(at_builtin
    refine aV rfl (.tmp 11) (.tmp 17) 29 rfl _ 24 Tryz.underlying29 oB rfl WC (⟨A2,r.l,c2⟩:aN) rfl Taw rfl ((HC.ae.later B2.ae).later (ah w2 _)) w2.heap.size rfl (aC.new w2 _ _) WC WC (Nat.le_trans hbase (Nat.le_trans B2.ae.size (ah w2 _).size)) ?_
    intro v4 w4 o4 g4
    have M4:=aa (Mine.grown (Mine.later (Mine.later HM.ae B2.ae) (ah w2 _)) ((HC.ae.later B2.ae).later (ah w2 _)) g4)
    have N4:=aa (Mine.grown (cl:=[(⟨A2,r.l,c2⟩:aN)]) (λ q hq=>by rw[mem_singleton] at hq;subst hq;exact O2H.ae.later (ah w2 _)) ((HC.ae.later B2.ae).later (ah w2 _)) g4)
    have b4:=bw ((HC.ae.later B2.ae).later (ah w2 _)) g4 (Nat.le_trans hbase (Nat.le_trans B2.ae.size (ah w2 _).size))
    have B4:=aa ((ai.then (ai.then hB B2.ae) (ah w2 _)).trans b4)
    have O4:=aa o4
    clear o4 g4 b4))
 go_roundw
 case rel=>
  refine⟨i+1,cl++ [⟨A2,r.l,c2⟩],hlt,by go_num,O4.ae,λ q hq=>?_,?_,B4.ae⟩
  ·rcases List.mem_append.1 hq with h | h
   ·exact M4.ae q h
   ·exact N4.ae q h
  ·rw[map_append,HE.ae,HT.ae];rfl
 case measure=>exact Za6):p:=h
theorem abi (aL:List aN)(RA:Option Addr)(rc:Nat)(w:World)(hn:aL.length<=1000000)(hl:∀r∈aL,r.l.length<=1000000)(hR:RR w w.heap.size RA aL):
  ar 12 #[.slice RA aL.length rc] w λ e w'=>∃v cl,e=.returned v/\aI bX 38 1 w' w.heap.size v cl/\Mine w' w.heap.size cl/\cl.map (·.l)=aL.map (·.l)/\aj w w':=by
 have HR:=aa hR;have Aa:=aa hl;clear hR hl;go_enter Tryz.func12,Tryz.ntmps12;go_wp2_with fail;go_loopw [3,4] (λ v KK wr=>∃(i:Nat) (cl:List aN),i<=aL.length/\KK=af i/\aI bX 38 1 wr w.heap.size v cl/\Mine wr w.heap.size cl/\cl.map (·.l)=(aL.take i).map (·.l)/\aj w wr) (λ _ KK _=>aL.length - (intOf KK).toNat);case atStart=>exact⟨0,[],Nat.zero_le _,rfl,aI.nil,(λ r hr=>by cases hr),rfl,Below.refl _ _⟩
 case round=>
  obtain⟨i,cl,hk,rfl,cg,hO,hM,hB⟩:=hrel;have HC:=aa cg;have HM:=aa hO;have HE:=aa hM;clear cg hO hM;by_cases hlt:i < aL.length
  ·open zgW in exact Zev
  ·have fL:i=aL.length:=by omega
   subst fL;rw[take_length] at HE;go_wp2_with fail;exact bodyPost_ret (v:=u3) (by simp[results,Tryz.results12,go_sem]) rfl ⟨_,rfl,cl,HC.ae,HM.ae,HE.ae,hB⟩
variable{b:Nat}
theorem bJ(h:w'.heap[b]?=w.heap[b]?)(o:Nat):w'.cell? ⟨b,o,none⟩=w.cell? ⟨b,o,none⟩:=by unfold World.cell?;dsimp only;rw[h]
def Kp (w:World)(gp:Nat)(us:List Value)(b:Nat):Prop:=b < w.heap.size/\b≠gp/\∀u∈us,u.ownBlock≠some b
def Mv (w:World)(u u':Value):Prop:=u'.ownBlock=u.ownBlock\/∀q,u'.ownBlock=some q->w.heap.size<=q
theorem Mv.refl (w:World)(u:Value):Mv w u u:=.inl rfl
variable{w1:World}{u1 u2:Value}
theorem Mv.trans(h:Mv w u u1)(k:Mv w1 u1 u2)(hs:w.heap.size<=w1.heap.size):Mv w u u2:=by
 rcases k with k | k
 ·rcases h with h | h
  ·exact .inl (k.trans h)
  ·exact .inr λ q hq=>h q (k▸hq)
 ·exact .inr λ q hq=>Nat.le_trans hs (k q hq)
variable{u':Value}
theorem Mv.ne(h:Mv w u u')(hb:b < w.heap.size)(hu:u.ownBlock≠some b):u'.ownBlock≠some b:=λ e=>by
 rcases h with h | h
 ·exact hu (h▸e)
 ·have:=h b e;omega
structure gM (gp:Nat) (w:World) (u v:Value) (w':World) (u' v':Value):Prop where
 os:w'.os=w.os
 tape:w'.tape=w.tape
 output:w'.output=w.output
 size:w.heap.size<=w'.heap.size
 block:∀k,Kp w gp [u,v] k->w'.heap[k]?=w.heap[k]?
 mu:Mv w u u'
 mv:Mv w v v'
variable{gp:Nat}
theorem ey:Kp w gp [u,v] b↔b < w.heap.size/\b≠gp/\u.ownBlock≠some b/\v.ownBlock≠some b:=by unfold Kp;simp
variable{v':Value}
theorem gM.kp(h:gM gp w u v w' u' v')(hb:Kp w gp [u,v] b):Kp w' gp [u',v'] b:=by rw[ey] at*;exact⟨Nat.lt_of_lt_of_le hb.1 h.size,hb.2.1,h.mu.ne hb.1 hb.2.2.1,h.mv.ne hb.1 hb.2.2.2⟩
theorem gM.refl (gp:Nat)(w:World)(u v:Value):gM gp w u v w u v:=⟨rfl,rfl,rfl,Nat.le_refl _,λ _ _=>rfl,.inl rfl,.inl rfl⟩
variable{w2:World}{v1 v2:Value}
theorem gM.trans(h:gM gp w u v w1 u1 v1)(k:gM gp w1 u1 v1 w2 u2 v2):gM gp w u v w2 u2 v2:=
 ⟨k.os.trans h.os,k.tape.trans h.tape,k.output.trans h.output,Nat.le_trans h.size k.size,λ b hb=>(k.block b (h.kp hb)).trans (h.block b hb),h.mu.trans k.mu h.size,h.mv.trans k.mv h.size⟩
theorem gM.later(h:gM gp w u v w1 u1 v1)(hb:aj w1 w2):gM gp w u v w2 u1 v1:=
 h.trans ⟨hb.os,hb.tape,hb.output,hb.size,λ k hk=>hb.block k hk.1,.inl rfl,.inl rfl⟩
theorem gM.own(h:gM gp w u v w1 u1 v1)(hb:w1.grownBy w2 (some q))(hq:w.heap.size<=q):gM gp w u v w2 u1 v1:=
 ⟨hb.os.trans h.os,hb.tape.trans h.tape,hb.output.trans h.output,Nat.le_trans h.size hb.size,λ k hk=>(hb.block k (Nat.lt_of_lt_of_le hk.1 h.size) λ e=>by injection e with e;have:=hk.1;omega).trans (h.block k hk),h.mu,h.mv⟩
variable{r:Value}
theorem gM.asy(h:gM gp w u v w1 u1 v1)(hb:w1.grownBy w2 r.ownBlock)(hq:∀q,r.ownBlock=some q->w.heap.size<=q):gM gp w u v w2 u1 v1:=
 ⟨hb.os.trans h.os,hb.tape.trans h.tape,hb.output.trans h.output,Nat.le_trans h.size hb.size,λ k hk=>(hb.block k (Nat.lt_of_lt_of_le hk.1 h.size) λ e=>by have:=hq k e.symm;have:=hk.1;omega).trans (h.block k hk),h.mu,h.mv⟩
theorem gM.low(h:gM gp w u v w' u' v')(hB:B<=w.heap.size)(hg:B<=gp)(hu:∀q,u.ownBlock=some q->B<=q)(hv:∀q,v.ownBlock=some q->B<=q):Below B w w':=
 ⟨h.os,h.tape,h.output,h.size,λ k hk=>h.block k (ey.2 ⟨by omega,by omega,λ e=>by have:=hu k e;omega,λ e=>by have:=hv k e;omega⟩)⟩
variable{t:Tr}{y:Ex}
theorem gM.tree(h:gM gp w u v w' u' v')(ht:t.at_ w (λ b=>S b/\Kp w gp [u,v] b) y):t.at_ w' (λ b=>S b/\Kp w' gp [u',v'] b) y:=
 Tr.at_.keep (λ b hb=>⟨λ o=>bJ (h.block b hb.2) o,hb.1,h.kp hb.2⟩) t y ht
theorem gM.trees{t:List Tr} {y:List Ex} (h:gM gp w u v w' u' v')(ht:Tr.aQ w (λ b=>S b/\Kp w gp [u,v] b) t y):Tr.aQ w' (λ b=>S b/\Kp w' gp [u',v'] b) t y:=
 Tr.aQ.keep (λ b hb=>⟨λ o=>bJ (h.block b hb.2) o,hb.1,h.kp hb.2⟩) t y ht
variable{α:Type}{f:α->List Value}{e:TypeId}
theorem gM.asz{size:Nat}   {l:List α}(h:gM gp w u v w' u' v')(ho:aI f e size w base r l)(hr:∀q,r.ownBlock=some q->Kp w gp [u,v] q):aI f e size w' base r l:=ho.keep λ g hg=>h.block g (hr g hg)
variable{cs:Array Value}
theorem gM.blk{t:TypeId} (h:gM gp w u v w' u' v')(ho:aC w g t cs)(hr:Kp w gp [u,v] g):aC w' g t cs:=(h.block g hr).trans ho
variable{us:List Value}
theorem ZQ(h:t.at_ w (λ b=>S b/\Kp w gp us b) y):t.at_ w (Old w) y:=Tr.at_.keep (λ b hb=>⟨λ _=>rfl,hb.2.1⟩) t y h
theorem Tr.all_append:∀ {ts us:List Tr} {ys zs:List Ex},Tr.aQ w S ts ys->Tr.aQ w S us zs->Tr.aQ w S (ts++us) (ys++zs)
 | [],us,ys,zs,h,k=>by unfold Tr.aQ at h;subst h;exact k
 | t::ts,us,ys,zs,h,k=>by unfold Tr.aQ at h;obtain⟨y,ys',rfl,h1,h2⟩:=h;rw[cons_append,cons_append];unfold Tr.aQ;exact⟨y,ys'++zs,rfl,h1,Tr.all_append h2 k⟩
theorem Tr.fP(h:t.at_ w S y):Tr.aQ w S [t] [y]:=by unfold Tr.aQ;refine⟨y,[],rfl,h,?_⟩;unfold Tr.aQ;rfl
variable{P:Program}{rest:List Oper}{o:Oper}{a:Act}{Q:Exit->Act->World->Prop}
theorem nA{size:Nat}   {l:List α}  {ops:Array Oper}    (hgd:o.guard=none)(s x:Operand)(t:TypeId)
  (ho:o.op=.call { callee:=.builtin .append,args:= #[s,x],argTypes:= #[t,t] })
  (z:Value) (bytes:Nat) (ht:P.underlying t=some (.slice e)) (jm:(P.info? e).map (λ i=>(i.zero,i.size,i.bytes))=some (some z,size,bytes)) (hzs:z.cells.size=size) (hsz:0 < size)
  (y:α) (hf:(f y).length=size) (h1:∀u∈f y,u.oneCell'=true)
  (hs:a.eval s=v) (hown:aI f e size w base v l)
  (g:Nat) (hx:a.eval x=aF g 1 1) (hg:aC w g e (f y).toArray)
  (hlen:(l.length+1)*bytes<=140737488355328) (mS:l.length+1<=140737488355328) (hbase:base<=w.heap.size)
  (h:∀v' w',aI f e size w' base v' (l++ [y])->w.grownBy w' v.ownBlock->Mv w v v'->wpList P ops Q rest (a.put o.dst v') w'):wpList P ops Q (o::rest) a w:=by
 obtain⟨i0,kB,hz0,hz1,hz2⟩:=info_parts jm;refine cO w hgd s x t ho base e i0 z size bytes ht kB hz0 hz1 hz2 hzs hsz v l.length (l.flatMap f) hs hown (g+1) (some ⟨g,0,none⟩) 1 1 (f y) hx ⟨by omega,λ _=>⟨_,rfl,Nat.lt_succ_self _,?_⟩⟩ h1 Tam hlen hbase ?_
 ·exact ZfC
 ·intro v' w' h2 h3 h4;refine h v' w' Zh5 h3 Zgx
def abj (k:Int)(q:Qy)(L:QL):Array Value:= #[ag k,au,az,au,af 0,au,af 0,.slice L.i.A L.i.n L.i.c,.string q.bZ,.bool q.only,.slice L.w.A L.w.n L.w.c,.slice L.g.A L.g.n L.g.c,.slice L.h.A L.h.n L.h.c,.slice L.o.A L.o.n L.o.c,.slice L.l.A L.l.n L.l.c,ag 0,au,af 0,af 0,az,az,az,ag 0,af 0,au,ag 0,af 0,au]
def NK (q:Qy)(L:QL):Array Value:= #[ag 0,au,az,au,af 0,au,af 0,.slice L.i.A L.i.n L.i.c,.string q.bZ,.bool q.only,.slice L.w.A L.w.n L.w.c,.slice L.g.A L.g.n L.g.c,.slice L.h.A L.h.n L.h.c,.slice L.o.A L.o.n L.o.c,.slice L.l.A L.l.n L.l.c,ag 0,au,af 0,af 0,az,az,az,ag 0,af 0,au,ag 0,af 0,au]
structure kq (w:World) (g:Nat) (cs:Array Value) (v:Value) (l:List Ex) (wr:World):Prop where
 own:aI bI 46 7 wr w.heap.size v l
 blk:aC wr g 27 cs
 low:aj w wr
variable{wr:World}
theorem kq.later{l:List Ex} (h:kq w g cs v l wr)(hb:aj wr w'):kq w g cs v l w':=⟨h.own.later hb,h.blk.later hb,Below.trans h.low (hb.mono h.low.size)⟩
def exK (w:World)(g:Nat)(cs:Array Value)(v0:Value)(acc l1 l2 l3:List Ex):List Value->World->Prop
 | [],wr=>kq w g cs v0 acc wr
 | [a],wr=>kq w g cs a (acc++l1) wr
 | [_,b],wr=>kq w g cs b (acc++l1++l2) wr
 | [_,_,c],wr=>kq w g cs c (acc++l1++l2++l3) wr
 | _,_=>False
theorem ZR (w:World)(g:Nat)(cs:Array Value)(v0:Value)(acc l1 l2 l3:List Ex):∀vs wr,exK w g cs v0 acc l1 l2 l3 vs wr->exK w g cs v0 acc l1 l2 l3 vs wr.drew
 | [],wr,h=>kq.later h (Below.refl _ _).drew
 | [a],wr,h=>kq.later h (Below.refl _ _).drew
 | [_,b],wr,h=>kq.later h (Below.refl _ _).drew
 | [_,_,c],wr,h=>kq.later h (Below.refl _ _).drew
 | _::_::_::_::_,wr,h=>h.elim
variable{v0:Value}{acc l1 l2 l3:List Ex}
theorem Ja:∀vs wr,exK w g cs v0 acc l1 l2 l3 vs wr->aC wr g 27 cs
 | [],wr,h=>h.blk
 | [a],wr,h=>h.blk
 | [_,b],wr,h=>h.blk
 | [_,_,c],wr,h=>h.blk
 | _::_::_::_::_,wr,h=>h.elim
variable{m:List Ex}
theorem mr{l:List Ex} {A:Option Addr} {c:Nat}(h:kq w g cs v l wr)(hm:RE wr wr.heap.size A m)(hl:l.length+m.length<=4400000):
  ∃v' w',(Builtin.append_ #[23,23] 23 #[v,.slice A m.length c]).run Tryz.prog wr=.ok v' w'/\kq w g cs v' (l++m) w':=by obtain⟨i0,kB,hz0,hz1,hz2⟩:=info_parts fM;obtain⟨v',w',h1,h2,h3,_⟩:=iR (P:=Tryz.prog) wr w.heap.size 23 23 46 i0 _ 7 88 Tryz.underlying23 kB hz0 hz1 hz2 rfl WC v l.length (l.flatMap bI) h.own _ A m.length c (m.flatMap bI) hm.reads (PN m) Tam WC h.low.size;refine⟨v',w',h1,?_,h.blk.grown h3 (λ e=>h.own.other h.blk Taa e.symm),Below.trans h.low (bw h.own h3 h.low.size)⟩;unfold aI;rw[length_append,flatMap_append];exact h2
theorem ZT{l:List (Tr×Value)} {A:Option Addr} (h:eQ w l A n):∃ys:List (Ex×Value),n=ys.length/\RI w w.heap.size A ys/\Tr.aQ w (Old w) (l.map (·.1)) (ys.map (·.1)):=by obtain⟨hn,ys,h1,h2,h3⟩:=h;refine⟨ys,?_,h1,h3⟩;have:=congrArg List.length h2;simp at this;omega
variable{ts:List Tr}
theorem Jb{A:Option Addr} (h:fU w ts A n):∃ys,n=ys.length/\RE w w.heap.size A ys/\Tr.aQ w (Old w) ts ys:=by obtain⟨hn,ys,h1,h2⟩:=h;refine⟨ys,by rw[hn,Tr.aQ.length h2],?_,h2⟩;exact Zdn
theorem uP{k:Int}(q:Qy)(L:QL)(w:World)(hq:rD w q L)(hlen:q.items.length+q.cK.length+q.aL.length+q.ft.length+q.ord.length<=1100000):
  ar 23 #[.agg (abj k q L)] w λ e w'=>∃v ys,e=.returned v/\aI bI 46 7 w' w.heap.size v ys/\Tr.aQ w (Old w) q.all ys/\aj w w':=by
 obtain⟨zi,ni,hF,ti⟩:=ZT hq.i;obtain⟨zo,no,ih,eE⟩:=ZT hq.o;obtain⟨yw,nw,q1,tw⟩:=Jb hq.w;obtain⟨yg,ng,q2,tg⟩:=Jb hq.g;obtain⟨yh,nh,q3,th⟩:=Jb hq.h;have q4:zi.length+yw.length+yg.length+yh.length+zo.length<=1100000:=by have a1:=Tr.aQ.length ti;have a2:=Tr.aQ.length eE;have a3:=Tr.aQ.length tw;have a4:=Tr.aQ.length tg;have a5:=Tr.aQ.length th;simp at a1 a2;omega
 have Cg:=aa (show Tr.aQ w (Old w) q.all (zi.map (·.1)++yw++yg++yh++zo.map (·.1)) by
  unfold Qy.all
  have e1:q.items.map (·.1)=(q.items.map λ x=>(x.1,Value.string x.2)).map (·.1):=by rw[map_map];rfl
  have e2:q.ord.map (·.1)=(q.ord.map λ x=>(x.1,Value.bool x.2)).map (·.1):=by rw[map_map];rfl
  rw[e1,e2,<- append_assoc,<- append_assoc]
  exact Tr.all_append (Tr.all_append (Tr.all_append (Tr.all_append ti tw) tg) th) eE)
 have HF:=aa hF;have IH:=aa ih;have Q1:=aa q1;have HH:=aa q2;have Q3:=aa q3;have Q4:=aa q4;obtain⟨i0,kB,hg4,oP,HZ⟩:=info_parts fM;have HI:=aa kB;have Kf:=aa hg4;have Gs:=aa oP;have tN:=aa HZ;clear kB hg4 oP HZ;unfold abj;rw[ni,no,nw,ng,nh];have b1:=ah w (.cells #[ag k,au,az,au,af 0,au,af 0,.slice L.i.A zi.length L.i.c,.string q.bZ,.bool q.only,.slice L.w.A yw.length L.w.c,.slice L.g.A yg.length L.g.c,.slice L.h.A yh.length L.h.c,.slice L.o.A zo.length L.o.c,.slice L.l.A L.l.n L.l.c,ag 0,au,af 0,af 0,az,az,az,ag 0,af 0,au,ag 0,af 0,au] 64);have k1:=aC.new w 64 #[ag k,au,az,au,af 0,au,af 0,.slice L.i.A zi.length L.i.c,.string q.bZ,.bool q.only,.slice L.w.A yw.length L.w.c,.slice L.g.A yg.length L.g.c,.slice L.h.A yh.length L.h.c,.slice L.o.A zo.length L.o.c,.slice L.l.A L.l.n L.l.c,ag 0,au,af 0,af 0,az,az,az,ag 0,af 0,au,ag 0,af 0,au];have eN:=aa b1;have c7:=k1.cell 7;have c8:=k1.cell 8;have c9:=k1.cell 9;have c10:=k1.cell 10;have c11:=k1.cell 11;have c12:=k1.cell 12;have Xn:=k1.cell 13;have c14:=k1.cell 14;have Rm:=k1.cell 19;have Rn:=k1.cell 20;have c21:=k1.cell 21;simp only[Uaa] at c7 c8 c9 c10 c11 c12 Xn c14 Rm Rn c21;clear hq hlen ni no nw ng nh hF ih q1 q2 q3 ti eE tw tg th q4 b1 k1;go_enter Tryz.func23,Tryz.ntmps23;go_upto_region 1 with fail;generalize w.alloc _=W1 at*;go_wp2_with fail;go_loopw [3,4] (λ v iv wr=>v=az/\iv=af 0/\wr=W1) (λ _ _ _=>0);case atStart=>exact Ziu
 case round=>
  obtain⟨rfl,rfl,rfl⟩:=hrel;go_wp2_with fail;go_loopw [3,5] (λ v iv wr2=>v=az/\iv=af 0/\wr2=wr) (λ _ _ _=>0);case atStart=>exact Ziu
  case round=>
   obtain⟨rfl,rfl,rfl⟩:=hrel;go_upto_region 12 with fail;clear c7 c8 c9 c10 c11 c12 Xn c14 Rm Rn c21;have b2:=ah wr (.cells #[.slice L.i.A zi.length L.i.c,.string q.bZ,.bool q.only,.slice L.w.A yw.length L.w.c,.slice L.g.A yg.length L.g.c,.slice L.h.A yh.length L.h.c,.slice L.o.A zo.length L.o.c,.slice L.l.A L.l.n L.l.c] 27);have k2:=aC.new wr 27 #[.slice L.i.A zi.length L.i.c,.string q.bZ,.bool q.only,.slice L.w.A yw.length L.w.c,.slice L.g.A yg.length L.g.c,.slice L.h.A yh.length L.h.c,.slice L.o.A zo.length L.o.c,.slice L.l.A L.l.n L.l.c];have HX:=aa (kq.mk aI.nil k2 (Below.trans eN.ae (b2.mono eN.ae.size)):kq w wr.heap.size _ (az) [] _);generalize wr.alloc (.cells #[.slice L.i.A zi.length L.i.c,.string q.bZ,.bool q.only,.slice L.w.A yw.length L.w.c,.slice L.g.A yg.length L.g.c,.slice L.h.A yh.length L.h.c,.slice L.o.A zo.length L.o.c,.slice L.l.A L.l.n L.l.c] 27)=W2 at*;obtain⟨gq,NJ⟩:∃gq,gq=wr.heap.size:=⟨_,rfl⟩;rw[<- NJ] at HX ⊢;clear b2 k2 NJ eN;go_wp2_with fail;generalize wr=wz at*;go_loopw [3,7] (λ v iv wr=>∃(k:Nat),k<=zi.length/\iv=af k/\kq w gq #[.slice L.i.A zi.length L.i.c,.string q.bZ,.bool q.only,.slice L.w.A yw.length L.w.c,.slice L.g.A yg.length L.g.c,.slice L.h.A yh.length L.h.c,.slice L.o.A zo.length L.o.c,.slice L.l.A L.l.n L.l.c] v ((zi.take k).map (·.1)) wr) (λ _ iv _=>zi.length - (intOf iv).toNat);case atStart=>exact⟨0,Nat.zero_le _,rfl,HX.ae⟩
   case round=>
    obtain⟨k,hk,rfl,hx⟩:=hrel;have WW:=aa hx;have Kx:=hx.blk.cell 0;simp only[getElem?_toArray,getElem?_cons_zero] at Kx;have hk9:k<=1100000:=by have:=Q4.ae;omega
    clear hx HX;by_cases P9:k < zi.length
    ·obtain⟨b,off,hA,kE,hex⟩:∃b off,L.i.A=some ⟨b,off,none⟩/\b < w.heap.size/\cy w b (off+k*8) zi[k].1:=by
      rcases HF.ae with h |⟨b,off,h1,h2,h3⟩
      ·rw[h] at P9;simp at P9
      ·exact Zij
     have iC:=hex.keep (λ o=>WW.ae.low.cell (p:=⟨b,o,none⟩) kE);have pA:=aa (show(zi.take (k+1)).map (·.1)=(zi.take k).map (·.1)++ [zi[k].1] by rw[take_add_one,getElem?_eq_getElem P9,map_append];rfl);have xC:((zi.take k).map (·.1)).length=k:=by rw[length_map,length_take];omega
     generalize zi[k].1=y at*;generalize (zi.take k).map (·.1)=acc at*;unfold cy at iC;obtain⟨A3,c3,hv3,_⟩:=WW.ae.own.reads;rw[xC] at hv3;subst hv3;rw[hA] at Kx;clear hA;have bN:=ah wr (.cells (ay y) 46);have hG:=aC.new wr 46 (ay y);have kF:=aa (WW.ae.later bN);have HG:=aa hG;have hbase:=kF.ae.low.size;clear bN hG hex kE;go_wp2_with (first
      |(at_builtin
        refine aV (f:=bI) rfl (.tmp 52) (.tmp 59) 23 rfl _ 88 Tryz.underlying23 fM rfl WC y rfl (by intro u hu;simp[bI] at hu;rcases hu with rfl | rfl | rfl | rfl | rfl | rfl | rfl <;> rfl) rfl kF.ae.own wr.heap.size rfl HG.ae WC WC hbase ?_
        intro v4 w4 o4 g4
        have O4:=aa (kq.mk o4 (kF.ae.blk.grown g4 (λ e=>kF.ae.own.other kF.ae.blk Taa e.symm)) (Below.trans kF.ae.low (bw kF.ae.own g4 hbase)))
        clear o4 g4))
     exact ZgN
    ·have fL:k=zi.length:=by omega
     subst fL;have UZ:=aa (show kq w gq _ u3 (zi.map (·.1)) wr by have h1:=WW.ae;rwa [take_length] at h1);have hlz:(zi.map (·.1)).length=zi.length:=length_map _;have HLZ:=aa hlz;obtain⟨acc,aaO⟩:∃acc,acc=zi.map (·.1):=⟨_,rfl⟩;rw[<- aaO] at UZ HLZ Cg;clear aaO;obtain⟨A3,c3,hv3,_⟩:=UZ.ae.own.reads;subst hv3;clear WW hlz;go_upto_region 16 with fail;clear Kx;obtain⟨cs,hcs⟩:∃cs:Array Value,cs= #[.slice L.i.A zi.length L.i.c,.string q.bZ,.bool q.only,.slice L.w.A yw.length L.w.c,.slice L.g.A yg.length L.g.c,.slice L.h.A yh.length L.h.c,.slice L.o.A zo.length L.o.c,.slice L.l.A L.l.n L.l.c]:=⟨_,rfl⟩;have hk3:cs[3]?=some (.slice L.w.A yw.length L.w.c):=by rw[hcs];rfl
     have hk4:cs[4]?=some (.slice L.g.A yg.length L.g.c):=by rw[hcs];rfl
     have hk5:cs[5]?=some (.slice L.h.A yh.length L.h.c):=by rw[hcs];rfl
     have rS:=aa (show kq w gq cs (.slice A3 acc.length c3) acc wr by rw[hcs];exact UZ.ae);have NL:=aa hcs;clear hcs UZ;refine Mn (P:=Tryz.prog) (J:=exK w gq cs (.slice A3 acc.length c3) acc yw yg yh) (q:=6) (s:=3) (d0:=61) (d1:=62) (d2:=63) (d3:=64) (d4:=65) (d5:=66) (d6:=67) (d7:=68) (d8:=69) (d9:=70) (pq:=aw gq) (v0:=.slice A3 acc.length c3) (p1:=bj gq 3) (p2:=bj gq 4) (p3:=bj gq 5) (s1:=.slice L.w.A yw.length L.w.c) (s2:=.slice L.g.A yg.length L.g.c) (s3:=.slice L.h.A yh.length L.h.c) (A1:=⟨gq,3,none⟩) (A2:=⟨gq,4,none⟩) (A3:=⟨gq,5,none⟩) 23 (ZR _ _ _ _ _ _ _ _) rS.ae Vx Vx Vx Vx Vx rfl rfl ?_ ?_ ?_ ?_ (λ vs w' h=>⟨((Ja vs w' h).cell 3).trans hk3,((Ja vs w' h).cell 4).trans hk4,((Ja vs w' h).cell 5).trans hk5⟩) ?_ ?_ ?_ ?_ ?_ ?_ ?_ ?_ ?_ ?_
     ·exact Zcw
     ·exact Zcw
     ·exact Zcw
     ·exact Zcw
     ·exact Zd0
     ·exact Zd0
     ·exact Zd0
     ·exact Zhx
     ·exact Zhx
     ·exact Zhx
     ·intro w5 KK;exact mr KK ((Q1.ae.below (show kq w gq cs _ acc w5 from KK).low).more (show kq w gq cs _ acc w5 from KK).low.size) (by have:=Q4.ae;have:=HLZ.ae;omega)
     ·intro a w5 KK;have KK:kq w gq cs a (acc++yw) w5:=KK;exact mr KK ((HH.ae.below KK.low).more KK.low.size) (by have:=Q4.ae;have:=HLZ.ae;rw[length_append];omega)
     ·intro a b w5 KK;have KK:kq w gq cs b (acc++yw++yg) w5:=KK;exact mr KK ((Q3.ae.below KK.low).more KK.low.size) (by have:=Q4.ae;have:=HLZ.ae;rw[length_append,length_append];omega)
     intro va vb vc W7 hX7;have SP:=aa (show kq w gq cs vc (acc++yw++yg++yh) W7 from hX7);clear hX7 rS hk3 hk4 hk5;have Ay:=aa (show(acc++yw++yg++yh).length=zi.length+yw.length+yg.length+yh.length by simp only[length_append,HLZ.ae]);obtain⟨PS,adV⟩:∃PS,PS=acc++yw++yg++yh:=⟨_,rfl⟩;rw[<- adV] at SP Ay Cg;clear adV;have A4:cs[6]?=some (.slice L.o.A zo.length L.o.c):=by rw[NL.ae];rfl
     have HC6:=aa A4;clear A4 NL;simp only[Act.put,Uac];go_wp2_with fail;generalize wr=wy at*;go_loopw [3,8] (λ v iv wr=>∃(k:Nat),k<=zo.length/\iv=af k/\kq w gq cs v (PS++(zo.take k).map (·.1)) wr) (λ _ iv _=>zo.length - (intOf iv).toNat);case atStart=>exact⟨0,Nat.zero_le _,rfl,by rw[take_zero,map_nil,append_nil];exact SP.ae⟩
     case round=>
      clear SP;obtain⟨k,hk,rfl,hx⟩:=hrel;have WW:=aa hx;have c6:=(hx.blk.cell 6).trans HC6.ae;have hk9:k<=1100000:=by have:=Q4.ae;omega
      clear hx;by_cases P9:k < zo.length
      ·obtain⟨b,off,hA,kE,hex⟩:∃b off,L.o.A=some ⟨b,off,none⟩/\b < w.heap.size/\cy w b (off+k*8) zo[k].1:=by
        rcases IH.ae with h |⟨b,off,h1,h2,h3⟩
        ·rw[h] at P9;simp at P9
        ·exact Zij
       have iC:=hex.keep (λ o=>WW.ae.low.cell (p:=⟨b,o,none⟩) kE);have pA:=aa (show PS++(zo.take (k+1)).map (·.1)=PS++(zo.take k).map (·.1)++ [zo[k].1] by rw[take_add_one,getElem?_eq_getElem P9,map_append,append_assoc];rfl);have xC:(PS++(zo.take k).map (·.1)).length<=2200000:=by have:=Ay.ae;have:=Q4.ae;rw[length_append,length_map,length_take];omega
       generalize zo[k].1=y at*;generalize PS++(zo.take k).map (·.1)=acc at*;unfold cy at iC;obtain⟨A3,c3,hv3,_⟩:=WW.ae.own.reads;subst hv3;rw[hA] at c6;clear hA;have bN:=ah wr (.cells (ay y) 46);have hG:=aC.new wr 46 (ay y);have kF:=aa (WW.ae.later bN);have HG:=aa hG;have hbase:=kF.ae.low.size;clear bN hG hex kE;go_wp2_with (first
        |(at_builtin
          refine aV (f:=bI) rfl (.tmp 78) (.tmp 85) 23 rfl _ 88 Tryz.underlying23 fM rfl WC y rfl (by intro u hu;simp[bI] at hu;rcases hu with rfl | rfl | rfl | rfl | rfl | rfl | rfl <;> rfl) rfl kF.ae.own wr.heap.size rfl HG.ae WC WC hbase ?_
          intro v4 w4 o4 g4
          have O4:=aa (kq.mk o4 (kF.ae.blk.grown g4 (λ e=>kF.ae.own.other kF.ae.blk Taa e.symm)) (Below.trans kF.ae.low (bw kF.ae.own g4 hbase)))
          clear o4 g4))
       exact ZgN
      ·have fL:k=zo.length:=by omega
       subst fL;rw[take_length] at WW;go_wp2_with fail;go_ret;exact⟨_,_,rfl,WW.ae.own,Cg.ae,WW.ae.low⟩
def Mr (w:World)(B:Nat)(A:Option Addr)(gs:List Nat):Prop:=gs=[]\/∃g,A=some ⟨g,0,none⟩/\g < B/\∀(i:Nat) q,gs[i]?=some q->w.cell? ⟨g,i,none⟩=some (aw q)
theorem Mr.later{A:Option Addr} (h:Mr w w.heap.size A l)(hb:aj w w'):Mr w' w'.heap.size A l:=by
 rcases h with h |⟨g,h1,h2,h3⟩
 ·exact .inl h
 ·exact .inr ⟨g,h1,Nat.lt_of_lt_of_le h2 hb.size,λ i x hx=>(hb.cell (p:=⟨g,i,none⟩) h2).trans (h3 i x hx)⟩
theorem Mr.at_{A:Option Addr} (h:Mr w B A l) {k:Nat}(hk:k < l.length):∃g,A=some ⟨g,0,none⟩/\g < B/\w.cell? ⟨g,k,none⟩=some (.pointer (some ⟨l[k],0,none⟩)):=by
 rcases h with h |⟨g,h1,h2,h3⟩
 ·subst h;simp at hk
 ·exact⟨g,h1,h2,h3 k l[k] (getElem?_eq_getElem hk)⟩
variable{gs:List Nat}
theorem wK(h:aI df e 1 w base v gs):∃A c,v=.slice A gs.length c/\gs.length<=c/\Mr w w.heap.size A gs:=by
 obtain⟨A0,c0,e0,_,hle,_⟩:=h.reads;obtain⟨A,c,rfl,h1⟩:=ej (f:=df) (size:=1) (λ _=>rfl) h;injection e0 with _ _ e0;refine⟨A,c,rfl,by rw[e0];exact hle,?_⟩;rcases h1 with h1 |⟨g,h1,h2,h3⟩
 ·exact .inl h1
 ·refine .inr ⟨g,h1,h2,λ i q hq=>?_⟩;have:=h3 i q 0 _ hq WC rfl;exact Zfa
theorem PT (gg:Nat)(KA tA:Option Addr)(k t:List Val)(kc tc:Nat)(w:World)(hg:gg < w.heap.size)(hk:w.cell? ⟨gg,0,none⟩=some (.slice KA k.length kc))(hK:RV w w.heap.size KA k)(hT:RV w w.heap.size tA t)(hl:k.length<=1000)(ht:t.length<=1000):
  ar 65 #[aw gg,.slice tA t.length tc] w λ e w'=>e=.returned (af (bu k t))/\aj w w':=by have HR:=vQ KA kc k tA tc t w hK hT hl ht;clear hK hT hl ht;go_enter Tryz.func65,Tryz.ntmps65;go_wp2_with fail;refine HR.mono ?_;rintro e w1 ⟨rfl,b1⟩;clear HR hk;go_wp2_with fail;go_ret;exact⟨rfl,b1⟩
def CB (n:Nat)(c:Nat->Int)(w:World)(e:Ending)(w':World):Prop:=∃k:Nat,k<=n/\e=.returned (.tuple #[af k,.bool (decide (k < n)&& decide (c k=0))])/\(∀i,i < k->c i < 0)/\(∀i,k<=i->i < n->0<=c i)/\aj w w'
theorem zdV.KaK(h:p:=by
 have Ev:jp < gs.length:=by have:=HN.ae;omega
 obtain⟨g,rfl,hg,Kx⟩:=HA.ae.at_ Ev;have hz:=(hb.cell (p:=⟨g,jp,none⟩) hg).trans Kx;have hex:=HE.ae jp Ev _ hb;have HML:=aa Ev;generalize gs[jp]=q at*;clear Kx hg Ev;go_wp2_with fail;refine hex.mono ?_;rintro e w1 ⟨rfl,b1⟩;have hb1:=ai.then hb b1;clear hex hz b1 hb;by_cases hc:c jp < 0
 ·go_wp2_with fail;go_roundw;case rel=>exact⟨jp+1,j,by omega,hj,by go_num,rfl,λ t ht=>HL.ae t jp WC HML.ae hc,HHI.ae,hb1⟩
  case measure=>exact Za6
 ·go_wp2_with fail;go_roundw;case rel=>exact⟨i,jp,by omega,by omega,rfl,rfl,ZV.ae,λ t h1 h2=>Int.not_lt.1 λ h=>absurd (HL.ae jp t h1 Tbl h) WC,hb1⟩
  case measure=>exact Za6):p:=h
theorem PU (gs:List Nat)(SA tA:Option Addr)(sc tn tc:Nat)(c:Nat->Int)(w:World)(hn:gs.length<=1000000)(hA:Mr w w.heap.size SA gs)
  (hE:∀i (h:i < gs.length),∀W,aj w W->ar 65 #[.pointer (some ⟨gs[i],0,none⟩),.slice tA tn tc] W λ e w'=>e=.returned (af (c i))/\aj W w')
  (hm:∀i j,i<=j->j < gs.length->c j < 0->c i < 0):
  ar 64 #[.slice SA gs.length sc,.slice tA tn tc,.func (.func 65) #[] #[]] w (CB gs.length c w):=by
 have HA:=aa hA;have HE:=aa hE;have HL:=aa hm;clear hA hE hm;obtain⟨n,uA⟩:∃n,n=gs.length:=⟨_,rfl⟩;have HN:=aa uA;rw[<- uA] at hn ⊢;clear uA;go_enter Tryz.func64,Tryz.ntmps64;go_wp2_with fail;go_loopw [9,10] (λ lo hi wr=>∃i j:Nat,i<=j/\j<=n/\lo=af i/\hi=af j/\(∀t,t < i->c t < 0)/\(∀t,j<=t->t < n->0<=c t)/\aj w wr) (λ lo hi _=>(intOf hi).toNat - (intOf lo).toNat);case atStart=>exact⟨0,n,Nat.zero_le _,Nat.le_refl _,rfl,rfl,λ t h=>by omega,λ t h1 h2=>by omega,Below.refl _ _⟩
 case round=>
  obtain⟨i,j,kY,hj,rfl,rfl,fK,hhi,hb⟩:=hrel;have ZV:=aa fK;have HHI:=aa hhi;clear fK hhi;by_cases hlt:i < j
  ·go_upto_region 5 with fail;open zdV in exact Zbp
  ·have Jc:j=i:=by omega
   subst Jc;by_cases zK:j < n
   ·have Ev:j < gs.length:=by have:=HN.ae;omega
    obtain⟨g,rfl,hg,Kx⟩:=HA.ae.at_ Ev;have hz:=(hb.cell (p:=⟨g,j,none⟩) hg).trans Kx;have hex:=HE.ae j Ev _ hb;generalize gs[j]=q at*;clear Kx hg Ev hlt;go_wp2_with fail;refine hex.mono ?_;rintro e w1 ⟨rfl,b1⟩;have hb1:=ai.then hb b1;clear hex hz b1 hb;by_cases hc:c j=0
    ·have t1:(c j==0)=true:=by simp[hc]
     go_wp2_with fail;exact bodyPost_ret (v:=.tuple #[af j,.bool true]) TaK rfl ⟨j,hj,by rw[decide_eq_true zK,decide_eq_true hc];rfl,ZV.ae,HHI.ae,hb1⟩
    ·have t1:(c j==0)=false:=by simp[hc]
     go_wp2_with fail;exact bodyPost_ret (v:=.tuple #[af j,.bool false]) TaK rfl ⟨j,hj,by rw[decide_eq_true zK,decide_eq_false hc];rfl,ZV.ae,HHI.ae,hb1⟩
   ·clear hlt;go_wp2_with fail;exact bodyPost_ret (v:=.tuple #[af j,.bool false]) TaK rfl ⟨j,hj,by rw[decide_eq_false zK];rfl,ZV.ae,HHI.ae,hb⟩
structure pN (w w':World) (qs:List Nat):Prop where
 os:w'.os=w.os
 tape:w'.tape=w.tape
 output:w'.output=w.output
 size:w.heap.size<=w'.heap.size
 block:∀k,k < w.heap.size->k∉qs->w'.heap[k]?=w.heap[k]?
theorem pN.refl (w:World)(qs:List Nat):pN w w qs:=⟨rfl,rfl,rfl,Nat.le_refl _,λ _ _ _=>rfl⟩
theorem pN.below(h:pN w w1 qs)(hb:aj w1 w2):pN w w2 qs:=
 ⟨hb.os.trans h.os,hb.tape.trans h.tape,hb.output.trans h.output,Nat.le_trans h.size hb.size,λ k hk hn=>(hb.block k (Nat.lt_of_lt_of_le hk h.size)).trans (h.block k hk hn)⟩
theorem pN.grown(h:pN w w1 qs)(hq:q∈qs)(hb:w1.grownBy w2 (some q)):pN w w2 qs:=
 ⟨hb.os.trans h.os,hb.tape.trans h.tape,hb.output.trans h.output,Nat.le_trans h.size hb.size,λ k hk hn=>(hb.block k (Nat.lt_of_lt_of_le hk h.size) λ e=>by injection e with e;subst e;exact hn hq).trans (h.block k hk hn)⟩
theorem pN.blk{t:TypeId} (h:pN w w' qs)(hg:aC w g t cs)(hn:g∉qs):aC w' g t cs:=(h.block g hg.lt hn).trans hg
theorem pN.low(h:pN w w' qs)(hB:B<=w.heap.size)(hq:∀q∈qs,B<=q):Below B w w':=
 ⟨h.os,h.tape,h.output,h.size,λ k hk=>h.block k (Nat.lt_of_lt_of_le hk hB) λ hm=>by have:=hq k hm;omega⟩
structure RVq (w:World) (qs:List Nat) (A:Option Addr) (l:List Val):Prop where
 rv:RV w w.heap.size A l
 off:∀a,A=some a->a.block∉qs
theorem RVq.turn{A:Option Addr} {l:List Val}(h:RVq w qs A l)(ht:pN w w' qs):RV w' w'.heap.size A l:=by
 rcases h.rv with h0 |⟨b,off,rfl,hb,hc⟩
 ·exact .inl h0
 ·refine .inr ⟨b,off,rfl,Nat.lt_of_lt_of_le hb ht.size,λ i x hx=>(hc i x hx).keep λ o=>bJ (ht.block b hb (h.off _ rfl)) o⟩
def eT (A:Option Addr)(c n:Nat):Option Addr:=if c=n then A else A.map (·.add (n*3))
theorem RV.SQ{A:Option Addr} {l:List Val}(h:RV w B A l)(n c:Nat)(hc:l.length<=c):RV w B (eT A c n) (l.drop n):=by
 unfold eT;rcases h with h0 |⟨b,off,rfl,hb,hx⟩
 ·subst h0;exact .inl Tac
 ·split
  ·left;rw[drop_eq_nil_iff];omega
  ·refine .inr ⟨b,off+n*3,by simp[dR],hb,λ i x hi=>?_⟩;rw[getElem?_drop] at hi;have:=hx (n+i) x hi;rw[show off+n*3+i*3=off+(n+i)*3 by omega];exact this
theorem RV.ZW{A:Option Addr} {l:List Val}(h:RV w B A l)(n:Nat):RV w B A (l.take n):=by
 rcases h with h0 |⟨b,off,rfl,hb,hx⟩
 ·subst h0;exact .inl Tac
 ·refine .inr ⟨b,off,rfl,hb,λ i x hi=>?_⟩;rw[getElem?_take] at hi;split at hi
  ·exact hx i x hi
  ·cases hi
theorem yu{A:Option Addr} {c:Nat}(h:∀a,A=some a->a.block∉qs):∀a,eT A c n=some a->a.block∉qs:=by
 intro a ha;unfold eT at ha;split at ha
 ·exact h a ha
 ·cases A with
  | none=>cases ha
  | some ad=>simp only[Option.map_some,Option.some.injEq] at ha;rw[<- ha,vA];exact h ad rfl
theorem CC (u:World):(sizeOf (Tryz.prog.elem 38)).run Tryz.prog u=.ok 3 u:=by exact ZhU
theorem tu (a:Addr):a.add 0=a:=by obtain⟨b,o,s⟩:=a;unfold Addr.add;split <;> simp_all
theorem tx (A1:Option Addr)(n c1 k:Nat)(hk:k<=n)(u:World):(Instr.slice 38 (.slice A1 n c1) (some (af k)) none none).run Tryz.prog u=.ok (.slice (eT A1 c1 k) (n - k) (c1 - k)) u:=by unfold eT;rw[run_slice_l u 38 A1 n c1 Tryz.underlying38 .i64 k WC WC,CC];simp[sliced]
theorem Va (A1:Option Addr)(n c1 k:Nat)(hk:k<=c1)(u:World):(Instr.slice 38 (.slice A1 n c1) none (some (af k)) none).run Tryz.prog u=.ok (.slice A1 k c1) u:=by rw[run_slice_h u 38 A1 n c1 Tryz.underlying38 .i64 k WC WC,CC];exact Zh8
theorem Gn (A1:Option Addr)(n c1 k m:Nat)(hk:k<=m)(hm:m<=c1)(u:World):(Instr.slice 38 (.slice A1 n c1) none (some (af k)) (some (af m))).run Tryz.prog u=.ok (.slice A1 k m) u:=by rw[run_slice_hm u 38 A1 n c1 Tryz.underlying38 .i64 .i64 k m WC WC WC,CC];exact Zh8
theorem EB (w:World)(ty:TypeId)(g:Nat)(t:TypeId)(cur:Array Value)(A:Option Addr)(l:List Val)(c dl dc:Nat)(hg:aC w g t cur)(pO:l.length*3<=cur.size)(hl:l.length<=dl)(hR:Reads w w.heap.size 3 A l.length (l.flatMap aX)):
  (Builtin.copy_ #[38,38] ty #[aF g dl dc,.slice A l.length c]).run Tryz.prog w=.ok (goInt l.length) (w.setRow g (l.flatMap aX++cur.toList.drop (l.length*3)).toArray):=by
 have hn:Nat.min l.length dl=l.length:=Nat.min_eq_left hl;have Hv:=KZ l;have hst:=run_storeCells_at Tryz.prog g 0 t (l.flatMap aX) 0 cur w hg (by rw[Hv];simpa using pO) (val_one l);simp only[Nat.zero_add,take_zero,nil_append,Hv] at hst;have hsz:∀u:World,(sizeOf 44).run Tryz.prog u=.ok 3 u:=λ u=>by kernel_rfl
 cases A with
 | none=>
   have h0:l=[]:=by
    cases l with
    | nil=>rfl
    | cons x xs=>obtain⟨a,ha,_⟩:=hR.2 Tac;cases ha
   subst h0;simp[Builtin.copy_,run_underlying Tryz.underlying38,Builtin.lenOf,Builtin.firstCells,hsz,storeCells];rw[setRow_self w g cur t (0,0) hg]
 | some a=>
   have T5:=run_loadCells_list (P:=Tryz.prog) w a (l.flatMap aX) (by
    intro j v hj
    cases l with
    | nil=>simp at hj
    | cons x xs=>
      obtain⟨a2,ha,hb,hc⟩:=hR.2 Tac
      injection ha with ha
      subst ha
      exact hc j v hj)
   rw[Hv] at T5;simp[Builtin.copy_,run_underlying Tryz.underlying38,Builtin.lenOf,Builtin.firstCells,hsz,hn,T5,hst]
def lf (l:List Val):Val×Val:=(l.getD 0 aP,l.getD 1 aP)
variable{h:Nat}{ds:Array Value}
theorem kO{t u:TypeId} (hg:aC w g t cs)(hh:aC w h u ds)(hn:t≠u):g≠h:=λ e=>by subst e;have h1:w.heap[g]?=some (.cells cs t (0,0)):=hg;have h2:w.heap[g]?=some (.cells ds u (0,0)):=hh;rw[h1] at h2;injection h2 with h2;injection h2 with _ h2 _;exact hn h2
def nC:Array Value:= #[ag 0,af 0,au,ag 0,af 0,au]
def CD (a b:Val):Array Value:= #[ag a.k,af a.n,.string a.s,ag b.k,af b.n,.string b.s]
theorem Al{ops:Array Oper}     (hgd:o.guard=none)(d s:Operand)
  (ho:o.op=.call { callee:=.builtin .copy,args:= #[d,s],argTypes:= #[38,38] }) (g:Nat) (A:Option Addr) (l:List Val) (c dc n:Nat) (hd:a.eval d=aF g 2 dc) (hs:a.eval s=.slice A n c) (hn:n=l.length)
  (hg:aC w g 187 nC) (hl:l.length<=2) (hR:RV w w.heap.size A l)
  (h:∀w' u,aC w' g 187 (CD (lf l).1 (lf l).2)->w.grownBy w' (some g)->wpList Tryz.prog ops Q rest (a.put o.dst u) w'):wpList Tryz.prog ops Q (o::rest) a w:=by
 subst hn;refine wpList_plain hgd λ K hK=>?_
 have hrun:=EB w o.type g 187 nC A l c 2 dc hg (by show l.length*3<=6;omega) hl hR.reads;unfold Oper.wp;simp[execOp,ho,resolve,invoke,builtin,hd,hs,hrun,Result.andThen];refine hK _ _ (h _ _ ?_ ⟨rfl,rfl,rfl,by simp[World.setRow],λ k hk hne=>setRow_other w g k _ (λ e=>hne Tbb)⟩);have:=setRow_heap w g nC (l.flatMap aX++nC.toList.drop (l.length*3)).toArray 187 (0,0) hg;refine Eq.trans this ?_
 match l,hl with
 | [],_=>rfl
 | [x],_=>rfl
 | [x,y],_=>rfl
def my:List Nat->List Val->List (Val×Val)
 | [],_=> []
 | n::ns,l=>lf (l.take n)::my ns (l.drop n)
def Ms:List Nat->Nat
 | []=>0
 | n::ns=>n+Ms ns
def eB (ss:List St)(ps:List (Val×Val)):List St:=List.zipWith (λ s p=>s.feed p.1 p.2) ss ps
theorem dG.put{k:Nat}   (h:dG w B qs ss)(hq:qs[k]?=some q)(hg:w.grownBy w' (some q))(hs:cF w' q s):dG w' B qs (ss.set k s):=by
 have Ax:k < qs.length:=by
  rcases Nat.lt_or_ge k qs.length with h1 | h1
  ·exact h1
  ·rw[getElem?_eq_none h1] at hq;cases hq
 refine⟨by rw[length_set];exact h.len,λ i r t hr ht=>?_,λ r hr=>⟨(h.low r hr).1,Nat.lt_of_lt_of_le (h.low r hr).2 hg.size⟩,h.apart⟩;by_cases hik:i=k
 ·subst hik;rw[hq] at hr;injection hr with hr;rw[getElem?_set_self (by rw[<- h.len];exact Ax)] at ht;injection ht with ht;subst hr ht;exact hs
 ·rw[getElem?_set_ne (Ne.symm hik)] at ht
  have hne:q≠r:=λ e=>by
   subst e
   have ui:i < qs.length:=by
    rcases Nat.lt_or_ge i qs.length with h1 | h1
    ·exact h1
    ·rw[getElem?_eq_none h1] at hr;cases hr
   rw[getElem?_eq_getElem ui] at hr;rw[getElem?_eq_getElem Ax] at hq;injection hr with hr;injection hq with hq;rcases Nat.lt_or_ge i k with hlt | vC
   ·exact List.pairwise_iff_getElem.1 h.apart i k ui Ax hlt (hr.trans hq.symm)
   ·exact List.pairwise_iff_getElem.1 h.apart k i Ax ui WC (hq.trans hr.symm)
  exact(hg.block r (h.low r (mem_of_getElem? hr)).2 (λ e=>by injection e with e;exact hne e.symm)).trans (h.at_ i r t hr ht)
theorem dG.uf{t:TypeId} (h:dG w B qs ss)(hg:aC w g t cs)(ht:t≠199):g∉qs:=λ hm=>by obtain⟨i,hi,he⟩:=getElem_of_mem hm;have h1:=h.at_ i g (ss[i]' TaL) Tay (getElem?_eq_getElem _);unfold cF aC at h1;unfold aC at hg;rw[hg] at h1;injection h1 with h1;injection h1 with _ h1 _;exact ht h1
def d4V (g7 g8 m c1 n yc:Nat)(A1 yA:Option Addr):Nat->World->Value->Prop
 | 0,_,v=>v=aF g8 2 2
 | 1,_,v=>v=.slice A1 m c1
 | 2,_,v=>v=bj g7 6
 | 3,_,v=>v=.slice yA n yc
 | 4,_,v=>v=af n
 | 5,_,v=>v=.slice A1 n c1
 | _,_,_=>False
theorem Vb (g7 g8 m c1 n yc:Nat)(A1 yA:Option Addr):∀i w w' v,d4V g7 g8 m c1 n yc A1 yA i w v->ai w w'->d4V g7 g8 m c1 n yc A1 yA i w' v:=by
 intro i w w' v h hl
 match i with
 | 0 | 1 | 2 | 3 | 4 | 5=>exact h
 | n+6=>exact h
def d6V (gg g8 sb sn sc k q:Nat)(a b:Val):Nat->World->Value->Prop
 | 0,_,v=>v=aw gg
 | 1,_,v=>v=aw gg
 | 2,_,v=>v=bj gg 1
 | 3,_,v=>v=aF sb sn sc
 | 4,_,v=>v=af k
 | 5,_,v=>v=bj sb k
 | 6,_,v=>v=aw q
 | 7,_,v=>v=aw g8
 | 8,_,v=>v=.agg (aH a)
 | 9,_,v=>v=bj g8 3
 | 10,_,v=>v=.agg (aH b)
 | _,_,_=>False
theorem Vc (gg g8 sb sn sc k q:Nat)(a b:Val):∀i w w' v,d6V gg g8 sb sn sc k q a b i w v->ai w w'->d6V gg g8 sb sn sc k q a b i w' v:=by exact ZdW
theorem zdH.KaH(h:p:=by
 have alP:=aa (λ q hq=>(hS.low q hq).1);clear oF Xr hS hR hc fF bh hv hF ih q1 q2 q3 q4 q5 AP fq hz hcw Ny;go_enter Tryz.func67,Tryz.ntmps67;go_wp2_with fail;clear Aj;go_loopw [2,14] (λ v i wr=>∃(j:Nat) (A1:Option Addr) (c1:Nat) (rem:List Val),j<=ys.length/\i=af j/\v=.slice A1 rem.length c1/\RVq w qs A1 rem/\rem.length<=c1/\rem.length<=1000000/\(∀v∈rem,v.Ok)/\my ((ys.map Ex.n).drop j) rem=ps.drop j/\Ms ((ys.map Ex.n).drop j)<=rem.length/\dG wr B qs ((eB ss ps).take j++ss.drop j)/\pN w wr qs) (λ _ i _=>ys.length - (intOf i).toNat);case atStart=>exact⟨0,A0,KK,l,Nat.zero_le _,rfl,rfl,HR.ae,HC.ae,B9.ae,HV.ae,tz.ae,PV.ae,HS0.ae,pN.refl _ _⟩
 case round=>
  clear HS0 tz PV HR HC HV B9;obtain⟨j,A1,c1,rem,hk,rfl,rfl,hR,hc,Ny,hv,oF,Xr,hS,hT⟩:=hrel;have HS:=aa hS;have HT:=aa hT;have HR:=aa hR;have HC:=aa hc;have HV:=aa hv;have tz:=aa oF;have PV:=aa Xr;have B9:=aa Ny;clear hS hT hR hc hv oF Xr Ny;by_cases hlt:j < ys.length
  ·obtain⟨b,off,rfl,kE,hex⟩:=(HF.ae.below (HT.ae.low jH.ae alP.ae)).at_ hlt;have fF:=HY2.ae ys[j] (getElem_mem hlt);have hdr:(ys.map Ex.n).drop j=ys[j].n::(ys.map Ex.n).drop (j+1):=by rw[drop_eq_getElem_cons Tan];simp
   rw[hdr] at tz PV;have hp0:ps.drop j=lf (rem.take ys[j].n)::my ((ys.map Ex.n).drop (j+1)) (rem.drop ys[j].n):=tz.ae.symm;have AB:ps[j]?=some (lf (rem.take ys[j].n)):=by have h1:=congrArg (λ l=>l[0]?) hp0;simpa using h1
   have DS:my ((ys.map Ex.n).drop (j+1)) (rem.drop ys[j].n)=ps.drop (j+1):=by have h1:=congrArg List.tail hp0;rw[tail_drop] at h1;exact h1.symm
   have asD:ys[j].n+Ms ((ys.map Ex.n).drop (j+1))<=rem.length:=PV.ae;have hkq:j < qs.length:=by have:=Q5.ae;omega
   have qj:j < ss.length:=by have:=oQ.ae;omega
   have ans:=HS.ae.at_ j qs[j] ss[j] (getElem?_eq_getElem hkq) (by
    rw[getElem?_append_right TaW,length_take]
    have hm:min j (eB ss ps).length=j:=by
     refine Nat.min_eq_left (Nat.le_of_lt ?_)
     unfold eB
     rw[length_zipWith]
     have hpl:j < ps.length:=by
      rcases Nat.lt_or_ge j ps.length with h | h
      ·exact h
      ·rw[getElem?_eq_none h] at AB;cases AB
     omega
    rw[hm,Nat.sub_self,getElem?_drop,Nat.add_zero,getElem?_eq_getElem qj])
   have bh:=HG.ae ss[j] (getElem_mem qj)
   have Zw:((eB ss ps).take j++ss.drop j).set j (ss[j].feed (lf (rem.take ys[j].n)).1 (lf (rem.take ys[j].n)).2)=(eB ss ps).take (j+1)++ss.drop (j+1):=by
    have hpl:j < ps.length:=by
     rcases Nat.lt_or_ge j ps.length with h | h
     ·exact h
     ·rw[getElem?_eq_none h] at AB;cases AB
    have Hv:j <(eB ss ps).length:=by unfold eB;rw[length_zipWith];omega
    have hfk:(eB ss ps)[j]'Hv=ss[j].feed (lf (rem.take ys[j].n)).1 (lf (rem.take ys[j].n)).2:=by
     have h1:(eB ss ps)[j]?=some (ss[j].feed (lf (rem.take ys[j].n)).1 (lf (rem.take ys[j].n)).2):=by unfold eB;rw[getElem?_zipWith,getElem?_eq_getElem qj,AB]
     rw[getElem?_eq_getElem Hv] at h1;injection h1
    rw[take_add_one,getElem?_eq_getElem Hv,hfk];have qA:((eB ss ps).take j).length=j:=by rw[length_take];omega
    rw[set_append_right _ _ WC,qA,Nat.sub_self,drop_eq_getElem_cons qj,set_cons_zero,append_assoc];rfl
   have HQS:=getElem_mem hkq;have Kt:qs[j]?=some qs[j]:=getElem?_eq_getElem hkq
   obtain⟨lb,hSA,S7,hsc⟩:∃lb,SA=some ⟨lb,0,none⟩/\lb < w.heap.size/\w.cell? ⟨lb,j,none⟩=some (.pointer (some ⟨qs[j],0,none⟩)):=by
    rcases Q4.ae with h |⟨g,h1,h2,h3⟩
    ·rw[h] at hkq;simp at hkq
    ·refine⟨g,h1,h2,?_⟩;have:=h3 j qs[j] 0 _ Kt WC rfl;exact Zfa
   subst hSA;have hsq:=λ h=>Q3.ae lb h rfl
   have hGw:=HT.ae.blk IH.ae HH.ae;have hsw:wr.heap[lb]?=w.heap[lb]?:=HT.ae.block lb S7 hsq;have Zx:=(bJ hsw j).trans hsc;have hP:=Nat.lt_of_lt_of_le S7 HT.ae.size;have hRw:=HR.ae.turn HT.ae;have awo:=Q5.ae;generalize ys[j]=y at*;generalize qs[j]=q at*;generalize ss[j]=s at*;unfold cy at hex;have HNX:=aa (show Ms ((ys.map Ex.n).drop (j+1))<=(rem.drop y.n).length by rw[length_drop];omega);have hI0:y.n<=rem.length:=by omega
   have HP:=aa DS;have HM:=aa Zw;have Vs:=aa HQS;have HK:=aa Kt;have Ee:=aa Zx;have J0:=aa hP;have E7:=aa ans;have Kh:=aa bh;have U2:=aa fF;have HI0:=aa hI0;have HHL:=aa hkq;clear hdr tz PV hp0 AB DS asD qj ans bh Zw HQS Kt S7 hsc hsq hsw Zx hP fF hI0 hkq;go_upto_region 4 with fail;have k1:=aC.new wr 46 (ay y);have MI:=ah wr (.cells (ay y) 46);generalize hW1:wr.alloc (.cells (ay y) 46)=W1 at*;have HZ:=aC.new W1 187 nC;have b2:=ah W1 (.cells nC 187);unfold nC at HZ b2;generalize hW2:W1.alloc _=W2 at*;have k1:=k1.later b2;have bb:=ai.then MI b2;obtain⟨g7,NM⟩:∃g7,g7=wr.heap.size:=⟨_,rfl⟩;have hs1:W1.heap.size=g7+1:=by rw[<- hW1,World.size_alloc,NM]
   rw[<- NM] at k1 ⊢;rw[hs1] at HZ;obtain⟨g8,hg8⟩:∃g8,g8=g7+1:=⟨_,rfl⟩;rw[<- hg8] at HZ ⊢;have nV:g7≠g8:=by omega
   have HT2:=aa (HT.ae.below bb);have WV:=aa (hRw.later bb);have MQ:=aa (hGw.later bb);have jg:=aa (HS.ae.later bb);have alY:=aa (show cF W2 q s from aC.later E7.ae bb);have alZ:=aa ((bb.cell (p:=⟨lb,j,none⟩) J0.ae).trans Ee.ae);have agv:=aa (Nat.lt_of_lt_of_le J0.ae bb.size);have WZ:=aa (show wr.heap.size<=g8 by omega);have HGS:=aa (show lb≠g8 by have:=J0.ae;omega);clear hGw hRw HS E7 Ee J0 MI b2 bb hW1 hW2 hs1 NM hg8 hex;obtain⟨m,hm⟩:∃m,m=rem.length:=⟨_,rfl⟩;rw[<- hm];have LT:=aa hm;have hYR:y.n<=m:=by rw[hm];exact HI0.ae
   have hC1:m<=c1:=by rw[hm];exact HC.ae
   clear hm;have HZH:=aa HZ;have E9:=aa k1;clear HZ k1;refine bC 6 (d4V g7 g8 m c1 y.n y.c A1 y.A) (Vb _ _ _ _ _ _ _ _) Vx Vx Vx ?_ ?_
   ·simp only[take_succ_cons,take_zero];refine⟨Zab,Zab,Zab,?_,Zab,?_,trivial⟩
    ·intro ρ W4 hc hL hr;have h0:_=_:=hr.1;have c0:=(E9.ae.later hL).cell 6;exact Za0
    ·intro ρ W4 hc hL hr;have h0:_=_:=hr.1;have h1:_=_:=hr.2.1;have hs:=Va A1 m c1 y.n WC W4;exact Zdj
   intro W3 hL;simp only[Uab];rintro _ rfl a1 - a2 - a3 - a4 - _ rfl;simp only[bF,Act.put,Uac];have PW:=aa (show aC W3 g8 187 nC from HZH.ae.later hL);have S1:=aa (((WV.ae.later hL).ZW y.n));have HLT:=aa (show(rem.take y.n).length=y.n by rw[length_take];have:=HI0.ae;omega);have MA:=aa (MQ.ae.later hL);have MR:=aa (E9.ae.later hL);have Cz:=aa (jg.ae.later hL);have amb:=aa (show cF W3 q s from aC.later alY.ae hL);have amc:=aa ((hL.cell (p:=⟨lb,j,none⟩) agv.ae).trans alZ.ae);have agx:=aa (Nat.lt_of_lt_of_le agv.ae hL.size);have HT3:=aa (HT2.ae.below hL);clear hL HZH E9 MQ jg alY alZ agv HT2 WV;have fK:=λ u=>tx A1 m c1 y.n hYR u
   refine Al rfl (.tmp 19) (.tmp 24) rfl g8 A1 (rem.take y.n) c1 2 y.n rfl rfl HLT.ae.symm PW.ae (by rw[HLT.ae];exact U2.ae) S1.ae ?_;intro Kx u4 hz4 hg4;have tq:=aa (MA.ae.grown hg4 (λ e=>by injection e with e;exact kO MA.ae PW.ae Taa e));have HX:=MR.ae.grown hg4 (λ e=>by injection e with e;exact nV e);have x6:=HX.cell 6;simp only[Uaa] at x6;have IK:=aa (Cz.ae.uf PW.ae Taa);have GU:=aa (Cz.ae.keep hg4.size λ q hq=>hg4.block q (Cz.ae.low q hq).2 (λ e=>by injection e with e;subst e;exact IK.ae hq));have NR:=aa (show cF Kx q s from aC.grown amb.ae hg4 (λ e=>by injection e with e;subst e;exact IK.ae Vs.ae));have MM:=aa ((bJ (hg4.block lb agx.ae (λ e=>by injection e with e;exact HGS.ae e)) j).trans amc.ae);have Tk:=aa (Nat.lt_of_lt_of_le agx.ae hg4.size);have asG:=aa (show w.heap.size<=g8 from Nat.le_trans HT.ae.size WZ.ae);have HT4:=aa (show pN w Kx qs from⟨hg4.os.trans HT3.ae.os,hg4.tape.trans HT3.ae.tape,hg4.output.trans HT3.ae.output,Nat.le_trans HT3.ae.size hg4.size,λ j hk hn=>(hg4.block j (Nat.lt_of_lt_of_le hk HT3.ae.size) (λ e=>by injection e with e;have:=asG.ae;omega)).trans (HT3.ae.block j hk hn)⟩);have Xa:=aa hz4;clear hz4 hg4 MA MR Cz amb amc agx HT3 PW S1 HX;go_wp2_with fail;have K1:=tq;have xX:=GU;have V0:=NR;have U3:=MM;have VU:=Tk;have Gs:=Xa;have HT5:=HT4;have HAB:=aa (show(lf (rem.take y.n)).1.Ok/\(lf (rem.take y.n)).2.Ok by
    have bh:∀Lw,((rem.take y.n).getD Lw aP).Ok:=λ Lw=>by
     rw[getD_eq_getElem?_getD]
     cases hj:(rem.take y.n)[Lw]? with
     | none=>exact dZ
     | some v=>exact HV.ae v (mem_of_mem_take (mem_of_getElem? hj))
    exact⟨bh 0,bh 1⟩)
   obtain⟨a,ha⟩:∃a,a=(lf (rem.take y.n)).1:=⟨_,rfl⟩;obtain⟨b2,hb2⟩:∃b2,b2=(lf (rem.take y.n)).2:=⟨_,rfl⟩;rw[<- ha,<- hb2] at HAB Gs HM;clear tq GU NR MM Tk Xa HT4 x6 ha hb2 fK;refine bC 11 (d6V gg g8 lb qs.length sc j q a b2) (Vc _ _ _ _ _ _ _ _ _) Vx Vx Vx ?_ ?_
   ·simp only[take_succ_cons,take_zero];refine⟨Zab,Zab,Zab,?_,Zab,?_,Zgr,Zab,?_,?_,?_,trivial⟩
    ·intro ρ W4 hc hL hr;have h0:_=_:=hr.1;have c0:=(K1.ae.later hL).cell 1;exact Za0
    ·intro ρ W4 hc hL hr;have h0:_=_:=hr.1;have h1:_=_:=hr.2.1;have KP:=HHL.ae;exact aq (w':=W4) (by simp[go_sem,h0,h1,KP,dR];done) ⟨ai.refl _,rfl⟩
    ·intro ρ W4 hc hL hr;have h0:_=_:=hr.1;have cL:=Gs.ae.later hL;have y0:=cL.cell 0;have y1:=cL.cell 1;have y2:=cL.cell 2;exact Zgu
    ·intro ρ W4 hc hL hr;have h0:_=_:=hr.1;exact aq (w':=W4) (by simp[go_sem,h0,hc.const,dR];done) ⟨ai.refl _,rfl⟩
    ·intro ρ W4 hc hL hr;have h0:_=_:=hr.1;have cL:=Gs.ae.later hL;have y0:=cL.cell 3;have y1:=cL.cell 4;have y2:=cL.cell 5;exact Zgu
   intro W5 hL;simp only[Uab];rintro a0 - a1 - a2 - a3 - a4 - a5 - _ rfl a7 - _ rfl a9 - _ rfl;simp only[bF,Act.put,Uac];have HS6:=aa (xX.ae.later hL);have aml:=aa (show cF W5 q s from aC.later V0.ae hL);have xo:=aa (HT5.ae.below hL);clear hL K1 xX V0 U3 VU Gs HT5;go_wp2_with fail;refine(Yn q s a b2 W5 aml.ae Kh.ae.1 Kh.ae.2 HAB.ae.1).mono ?_;rintro e w7 ⟨rfl,hst,NM⟩;have HS7:=aa (HS6.ae.put HK.ae NM hst);have HT7:=aa (xo.ae.grown Vs.ae NM);clear hst NM HS6 aml xo;go_wp2_with fail;go_roundw
   case rel=>
    refine⟨j+1,eT A1 c1 y.n,c1 - y.n,rem.drop y.n,hlt,by go_num,?_,⟨?_,yu HR.ae.off⟩,?_,?_,?_,HP.ae,HNX.ae,?_,HT7.ae⟩
    ·rw[length_drop,<- LT.ae]
    ·exact HR.ae.rv.SQ y.n c1 (by have:=HC.ae;omega)
    ·rw[length_drop];have:=HC.ae;omega
    ·rw[length_drop];have:=B9.ae;omega
    ·exact λ v hv=>HV.ae v (mem_of_mem_drop hv)
    ·rw[<- HM.ae];exact HS7.ae
   case measure=>exact Za6
  ·have fL:j=ys.length:=by omega
   subst fL;have Hv:(eB ss ps).length=ss.length:=by have h1:=Pu.ae;have h2:=oQ.ae;unfold eB;rw[length_zipWith];omega
   have hst:=HS.ae;rw[take_of_length_le (by rw[Hv];have:=oQ.ae;omega),drop_eq_nil_of_le (by have:=oQ.ae;omega),append_nil] at hst;have HST:=aa hst;clear hst Hv HS;go_wp2_with fail;go_end0;exact⟨rfl,HST.ae,HT.ae⟩):p:=h
theorem zz (gp gg B base:Nat)(ys:List Ex)(AA:Option Addr)(ac:Nat)(kv sv:Value)(qs:List Nat)(ss:List St)(l:List Val)(A0:Option Addr)(KK:Nat)(w:World)
  (hn:ys.length<=1000000) (fq:gp < B) (hz:B<=w.heap.size) (Aj:w.cell? ⟨gp,9,none⟩=some (.slice AA ys.length ac)) (hF:RE w B AA ys) (ih:aC w gg 141 #[kv,sv]) (q1:aI df 145 1 w base sv qs)
  (hS:dG w B qs ss) (q5:qs.length=ys.length) (hR:RVq w qs A0 l) (hc:l.length<=KK) (Xr:Ms (ys.map Ex.n)<=l.length) (fF:∀y∈ys,y.n<=2) (bh:∀s∈ss,s.Ok/\s.all < 4611686018427387904) (hv:∀v∈l,v.Ok) (Ny:l.length<=1000000):
  ar 67 #[aw gp,aw gg,.slice A0 l.length KK] w λ e w'=>e=.returned (.tuple #[])/\dG w' B qs (eB ss (my (ys.map Ex.n) l))/\pN w w' qs:=by
 have q2:=hS.uf ih Taa;have q3:=hS.ne q1;have AP:ss.length=ys.length:=by rw[<- hS.len];exact q5
 obtain⟨SA,sc,rfl,q4⟩:=ej (f:=df) (size:=1) (λ _=>rfl) q1;have hcw:=ih.cell 1;obtain⟨ps,oF⟩:∃ps,ps=my (ys.map Ex.n) l:=⟨_,rfl⟩;rw[<- oF];have Pu:=aa (show ps.length=ys.length by
  have hp:∀(ns:List Nat) (l:List Val),(my ns l).length=ns.length:=by
   intro ns
   induction ns with
   | nil=>intro l;rfl
   | cons n ns Ly=>intro l;show(my ns (l.drop n)).length+1=_;rw[Ly];rfl
  rw[oF,hp,length_map])
 have tz:=aa (show my ((ys.map Ex.n).drop 0) l=ps.drop 0 from oF.symm);have PV:=aa (show Ms ((ys.map Ex.n).drop 0)<=l.length from Xr);have HS0:=aa (show dG w B qs ((eB ss ps).take 0++ss.drop 0)from hS);have LE:=aa (show(eB ss ps).length<=ss.length by unfold eB;rw[length_zipWith];omega);have HR:=aa hR;have HC:=aa hc;have HY2:=aa fF;have HG:=aa bh;have HV:=aa hv;open zdH in exact Zbm
theorem CE:(Tryz.prog.info? 135).map (λ i=>(i.zero,i.size,i.bytes))=some (some (.pointer none),1,8):=by exact ZhU
theorem Mt (u:World):(sizeOf (Tryz.prog.elem 134)).run Tryz.prog u=.ok 1 u:=by exact ZhU
theorem iD (A1:Option Addr)(n c1 k:Nat)(hk:k<=n)(u:World):(Instr.slice 134 (.slice A1 n c1) (some (af k)) none none).run Tryz.prog u=.ok (.slice (if c1=k then A1 else A1.map (·.add (k*1))) (n - k) (c1 - k)) u:=by rw[run_slice_l u 134 A1 n c1 Tryz.underlying134 .i64 k WC WC,Mt];simp[sliced]
theorem CF (A1:Option Addr)(n c1 k:Nat)(hk:k<=c1)(u:World):(Instr.slice 134 (.slice A1 n c1) none (some (af k)) none).run Tryz.prog u=.ok (.slice A1 k c1) u:=by rw[run_slice_h u 134 A1 n c1 Tryz.underlying134 .i64 k WC WC,Mt];exact Zh8
theorem Mu (w:World)(ty:TypeId)(g q:Nat)(cur:Array Value)(a:Addr)(cs:List Value)(dl dc sl sc:Nat)(hg:aC w g 135 cur)(pO:q+cs.length<=cur.size)(hn:cs.length=Nat.min sl dl)
  (hs:∀(j:Nat) v,cs[j]?=some v->w.cell? (a.add j)=some v) (h1:∀v∈cs,v.oneCell'=true):
  (Builtin.copy_ #[134,134] ty #[.slice (some ⟨g,q,none⟩) dl dc,.slice (some a) sl sc]).run Tryz.prog w=.ok (goInt cs.length) (w.setRow g (cur.toList.take q++(cs++cur.toList.drop (q+cs.length))).toArray):=by
 have hst:=run_storeCells_at Tryz.prog g q 135 cs 0 cur w hg (by simpa using pO) h1;have T5:=run_loadCells_list (P:=Tryz.prog) w a cs hs;have hsz:∀u:World,(sizeOf 135).run Tryz.prog u=.ok 1 u:=λ u=>by kernel_rfl
 simp only[Nat.add_zero] at hst;simp[Builtin.copy_,run_underlying Tryz.underlying134,Builtin.lenOf,Builtin.firstCells,hsz,<- hn,T5,hst]
variable{ac:Act}
theorem iZ{ops:Array Oper}     (hgd:o.guard=none)(d s:Operand)
  (ho:o.op=.call { callee:=.builtin .copy,args:= #[d,s],argTypes:= #[134,134] }) (g q:Nat) (cur:Array Value) (a:Addr) (cs:List Value) (dl dc sl sc:Nat) (hd:ac.eval d=.slice (some ⟨g,q,none⟩) dl dc) (hs:ac.eval s=.slice (some a) sl sc)
  (hg:aC w g 135 cur) (pO:q+cs.length<=cur.size) (hn:cs.length=Nat.min sl dl) (asH:∀(j:Nat) v,cs[j]?=some v->w.cell? (a.add j)=some v) (h1:∀v∈cs,v.oneCell'=true)
  (h:∀w' u,aC w' g 135 (cur.toList.take q++(cs++cur.toList.drop (q+cs.length))).toArray->w.grownBy w' (some g)->wpList Tryz.prog ops Q rest (ac.put o.dst u) w'):wpList Tryz.prog ops Q (o::rest) ac w:=by
 refine wpList_plain hgd λ K hK=>?_
 have hrun:=Mu w o.type g q cur a cs dl dc sl sc hg pO hn asH h1;unfold Oper.wp;simp[execOp,ho,resolve,invoke,builtin,hd,hs,hrun,Result.andThen];exact hK _ _ (h _ _ (setRow_heap w g cur _ 135 (0,0) hg) ⟨rfl,rfl,rfl,by simp[World.setRow],λ k hk hne=>setRow_other w g k _ (λ e=>hne Tbb)⟩)
theorem fC (A:Option Addr)(n c:Nat):(Value.slice A n c).ownBlock=A.map (·.block):=by cases A <;> rfl
def eV (q:Nat):Value:=aw q
theorem rU (l:List Nat):l.flatMap df=l.map eV:=by
 induction l with
 | nil=>rfl
 | cons x l ih=>rw[flatMap_cons,ih];rfl
theorem AV (l:List Nat):∀v∈l.map eV,v.oneCell'=true:=by intro v hv;obtain⟨x,_,rfl⟩:=List.mem_map.1 hv;simp[eV,Value.oneCell']
def AW (lv:Value)(base:Nat)(l:List Nat)(w:World)(e:Ending)(w':World):Prop:=∃v',e=.returned v'/\aI df 135 1 w' base v' l/\w.grownBy w' lv.ownBlock
theorem PX (gs:List Nat)(x:Nat)(lv:Value)(base vb:Nat)(w:World)(hl:gs.length<=1000000)(hO:aI df 135 1 w base lv gs)(hv:aC w vb 135 #[aw x])(hbase:base<=w.heap.size):
  ar 66 #[lv,af gs.length,aF vb 1 1] w (AW lv base (gs++ [x]) w):=by
 obtain⟨LA,lc,rfl,hle,_⟩:=wK hO;have HV:=aa hv;obtain⟨n,uA⟩:∃n,n=gs.length:=⟨_,rfl⟩;have HN:=aa uA;have hl2:n<=1000000:=by omega
 rw[<- uA] at hle hO ⊢;have HO:=aa hO;have fK:=λ u=>iD LA n lc n (Nat.le_refl _) u
 clear hO hv uA hl;go_enter Tryz.func66,Tryz.ntmps66;go_wp2_with (first
  |(at_builtin
    refine aV (l:=gs) rfl (.tmp 23) (.tmp 24) 134 rfl _ 8 Tryz.underlying134 CE rfl WC x rfl TaY rfl HO.ae vb rfl HV.ae Tbl Tbl hbase ?_
    intro v4 w4 K9 g4
    obtain⟨A4,Qo,hv4,_⟩:=K9.reads
    rw[length_append,length_singleton] at hv4
    subst hv4
    have O4:=aa K9
    have G4:=aa (show w.grownBy w4 (Value.slice LA n lc).ownBlock from g4)
    clear K9 g4))
 all_goals
  go_ret;refine⟨_,rfl,O4.ae,?_⟩;have h4:=G4.ae;rw[fC] at h4 ⊢;exact h4
def agA (g n cap k:Nat):Nat->World->Value->Prop
 | 0,_,v=>v=aF g (n+1) cap
 | 1,_,v=>v=af k
 | 2,_,v=>v=af 1
 | 3,_,v=>v=af (k+1)
 | 4,_,v=>v=.slice (some ⟨g,k+1,none⟩) (n+1 - (k+1)) (cap - (k+1))
 | 5,_,v=>v=aF g (n+1) cap
 | 6,_,v=>v=af k
 | 7,_,v=>v=.slice (some ⟨g,k,none⟩) (n+1 - k) (cap - k)
 | _,_,_=>False
theorem PY (g n cap k:Nat):∀i w w' v,agA g n cap k i w v->ai w w'->agA g n cap k i w' v:=by exact Zg2
theorem zii.Kcc(h:p:=by
 have vq:=aa (HG.ae.later hL);have HV3:=aa (HV.ae.later hL);have HL:=aa hL;clear hL HG HV;have hg:((gs.drop k).map eV).length=n - k:=by rw[length_map,length_drop,<- HN.ae]
 have hcell:∀(j:Nat) v,((gs.drop k).map eV)[j]?=some v->W3.cell? ((⟨g,k,none⟩:Addr).add j)=some v:=λ j v hj=>by
  rw[PM,vq.ae.cell];rw[<- Array.getElem?_toList];have e:(cur.toList.take n)[k+j]?=some v:=by rw[HF.ae];rw[getElem?_map,getElem?_drop,<- getElem?_map] at hj;exact hj
  rw[getElem?_take] at e;split at e
  ·exact e
  ·cases e
 have NL:=aa hcell;have NA:=aa hg;clear hcell hg;refine iZ rfl (.tmp 73) (.tmp 76) rfl g (k+1) cur ⟨g,k,none⟩ ((gs.drop k).map eV) _ _ _ _ rfl rfl vq.ae (by rw[NA.ae,Q1.ae];omega) (by rw[NA.ae];simp only[Nat.min_def];split <;> omega) NL.ae (AV _) ?_;intro Kx u4 hg4 Vf;have Kf:=aa hg4;have HV4:=aa (HV3.ae.grown Vf (λ e=>by injection e with e;exact HH.ae e.symm));have agC:=aa (show w.grownBy Kx (some g)from ba (aT HL.ae) Vf);clear hg4 Vf vq HV3 HL NL;obtain⟨c4,hc4⟩:∃c4:Array Value,c4=(cur.toList.take (k+1)++((gs.drop k).map eV++cur.toList.drop (k+1+((gs.drop k).map eV).length))).toArray:=⟨_,rfl⟩;rw[<- hc4] at Kf;have HC4:=aa hc4;clear hc4;have hs4:c4.size=cap:=by rw[HC4.ae];have h1:=NA.ae;have h2:=Q1.ae;simp only[size_toArray,length_append,length_take,length_drop,Array.length_toList] at h1 ⊢;rw[length_map,length_drop] at h1 ⊢;omega
 have HS4:=aa hs4;have RG:∀(j:Nat) v,[eV x][j]?=some v->Kx.cell? ((⟨vb,0,none⟩:Addr).add j)=some v:=λ j v hj=>by rw[PM,Nat.zero_add,HV4.ae.cell];simpa [eV] using hj
 have HCX:=aa RG;clear hs4 RG;go_wp2_with (first
  |(refine iZ rfl (.tmp 80) (.tmp 81) rfl g k c4 ⟨vb,0,none⟩ [eV x] _ _ _ _ rfl rfl Kf.ae (by rw[HS4.ae,length_singleton];omega) TaQ HCX.ae (AV [x]) ?_
    intro W5 u5 Jd amn
    have Vd:=aa Jd
    have asI:=aa (ba agC.ae amn)
    clear Jd amn))
 go_ret;refine⟨_,rfl,⟨?_,.inr ⟨g,cap,_,?_,hbg,Vd.ae,?_,IH.ae,?_,?_⟩⟩,asI.ae⟩
 ·have:=HN.ae;simp[rU,df]
 ·have:=HN.ae;congr 1;simp;omega
 ·have:=HN.ae;simp;omega
 ·have:=HS4.ae;simp;omega
 ·have h3:=HF.ae;have h4:=HC4.ae;have h5:=HN.ae;have h6:=Q1.ae;obtain⟨R,hR⟩:∃R,R=cur.toList.drop (k+1+((gs.drop k).map eV).length):=⟨_,rfl⟩;rw[<- hR] at h4;have cg:cur.toList.length=cap:=by rw[Array.length_toList];exact h6
  have e0:cur.toList.take k=(gs.take k).map eV:=by have:=congrArg (List.take k) h3;rw[take_take,Nat.min_eq_left WC,<- map_take] at this;exact this
  have FX:(cur.toList.take (k+1)).length=k+1:=by rw[length_take];omega
  have e1:c4.toList.take k=(gs.take k).map eV:=by rw[h4,toList_toArray,take_append_of_le_length WC,take_take,Nat.min_eq_left WC,e0]
  have e2:c4.toList.drop (k+1)=(gs.drop k).map eV++R:=by rw[h4,toList_toArray,drop_append_of_le_length WC,drop_of_length_le WC,nil_append]
  rw[rU,toList_toArray,e1,length_singleton,e2,Nat.mul_one];have e3:(gs.take k).map eV++([eV x]++((gs.drop k).map eV++R))=(gs.take k++x::gs.drop k).map eV++R:=by simp
  exact Zhq):p:=h
theorem Mw (gs:List Nat)(x k:Nat)(g cap base vb:Nat)(cur:Array Value)(w:World)(hl:gs.length<=1000000)(hk:k < gs.length)(hbg:base<=g)(bh:aC w g 135 cur)(hroom:gs.length+1<=cap)(ih:cap<=maxLen)(q1:cur.size=cap)(hF:cur.toList.take gs.length=gs.map eV)(hv:aC w vb 135 #[aw x])(q2:g≠vb):
  ar 66 #[aF g gs.length cap,af k,aF vb 1 1] w (AW (aF g gs.length cap) base (gs.take k++x::gs.drop k) w):=by
 obtain⟨n,uA⟩:∃n,n=gs.length:=⟨_,rfl⟩;have HN:=aa uA;rw[<- uA] at hl hk hroom hF ⊢;have hmx:cap<=9223372036854775807:=by unfold maxLen at ih;omega
 have LG:∀lb cb,(callFunc 101 #[aF vb 1 1,.slice (some ⟨g,k+1,none⟩) lb cb]).run Tryz.prog w=.ok (.value (.bool false)) w:=λ lb cb=>by
  rw[run_callFunc_extern Tryz.func101 Vx Vx Vx (e:=Extern.SlicesOverlaps.overlaps #[134,134] #[4]) Vx,
   Lib.run_overlaps_apart w 134 4 135 Tryz.underlying134 1 (λ u=>by kernel_rfl) ⟨vb,0,none⟩ ⟨g,k+1,none⟩ 1 1 lb cb (Ne.symm q2) 135 135 1 cap (by unfold World.shape?;dsimp only;rw[show w.heap[vb]?=some (.cells #[aw x] 135 (0,0))from hv];rfl) (by unfold World.shape?;dsimp only;rw[show w.heap[g]?=some (.cells cur 135 (0,0))from bh,<- q1]) WC (hv.frozen 0) (hv.frozen 1)]
  rfl
 have Ve:=λ u=>iD (some ⟨g,0,none⟩) n cap k WC u
 have amm:=λ u=>CF (some ⟨g,0,none⟩) n cap (n+1) hroom u
 have EC:=λ u=>iD (some ⟨g,0,none⟩) (n+1) cap (k+1) WC u
 have PZ:=λ u=>iD (some ⟨g,0,none⟩) (n+1) cap k WC u
 rw[if_neg WC] at Ve EC PZ;simp only[Option.map_some,dR,Nat.mul_one,Nat.zero_add] at Ve EC PZ;push_cast at amm EC;have mixed:Tryz.prog.follows .mixedOrders=true:=by kernel_rfl
 have t1:((k:Int)==(n:Int))=false:=by simp;omega
 have t2:decide ((cap:Int)<(n:Int)+1)=false:=decide_eq_false WC;have HG:=aa bh;have HV:=aa hv;have HF:=aa hF;have IH:=aa ih;have Q1:=aa q1;have HH:=aa q2;have HOV:=LG;clear bh hv hF ih q1 q2 uA LG;go_enter Tryz.func66,Tryz.ntmps66;go_wp2_with (simp only[HOV]);refine bC 8 (agA g n cap k) (PY _ _ _ _) Vx Vx Vx ?_ ?_
 ·exact Zbz
 open zii in exact Zfz
theorem Vg (d:Bool):Good (YC d):=by
 cases d
 ·exact jB
 ·exact jB.flip
theorem CG:∀ds,Good (wh ds)
 | []=>⟨λ _ _=>rfl,λ _ _ _ _ _=>Int.le_refl _⟩
 | d::ds=>((Vg d).by_ λ l:List Val=>l.headD aP).lex ((CG ds).by_ List.tail)
theorem pP (ds:List Bool):Good (ud ds):=((CG ds).by_ eI.keys).lex (eD.by_ eI.row)
theorem Qa{ds:List Bool} {a b:eI}(h:ud ds a b=0):a.row=b.row:=by
 unfold ud oN at h;split at h
 ·exact fG _ _ h
 ·rename_i h2;exact absurd h h2
def jJ (s:dE):Prop:=∀a∈s.aM,isAgg a.op=true
mutual
theorem Tr.Gp (aL:List Tr)(cols:List aZ):∀(t:Tr) (s:dE) (y:Tr) (s':dE),t.turn aL cols s=.ok (y,s')->jJ s->jJ s'
 | .mk op v name width args,s,y,s',h,hs=>by
   unfold Tr.turn at h;split at h
   ·injection h with h;injection h with h1 h2;rw[<- h2];exact hs
   ·split at h
    ·rename_i hop;split at h
     ·cases h
     ·injection h with h;injection h with h1 h2;rw[<- h2];intro a ha;rcases List.mem_append.1 ha with ha | ha
      ·exact hs a ha
      ·rw[mem_singleton] at ha;rw[ha];exact hop
    ·split at h
     ·cases h
     ·rename_i ys s1 h1;split at h
      ·cases h
      ·split at h
       ·cases h
       ·injection h with h;injection h with h3 h4;rw[<- h4];exact Tr.CH aL cols args s ys s1 h1 hs
theorem Tr.CH (aL:List Tr)(cols:List aZ):∀(ts:List Tr) (s:dE) (ys:List Tr) (s':dE),Tr.turns aL cols ts s=.ok (ys,s')->jJ s->jJ s'
 | [],s,ys,s',h,hs=>by unfold Tr.turns at h;injection h with h;injection h with h1 h2;rw[<- h2];exact hs
 | t::ts,s,ys,s',h,hs=>by
   unfold Tr.turns at h;split at h
   ·cases h
   ·rename_i y s1 h1;split at h
    ·cases h
    ·rename_i Xb s2 h2;injection h with h;injection h with h3 h4;rw[<- h4];exact Tr.CH aL cols ts s1 Xb s2 h2 (Tr.Gp aL cols t s y s1 h1 hs)
end
variable{aL:List Tr}{cols:List aZ}{s':dE}
theorem CI{g:Bool}    {s:dE} {y:Tr} {k:Int} (h:pB g aL cols t s=.ok (y,k,s'))(hs:jJ s):jJ s':=by
 unfold pB at h;split at h
 ·exact Zgq
 ·split at h
  ·cases h
  ·rename_i y1 s1 h1;split at h
   ·cases h
   ·injection h with h;injection h with h2 h;injection h with h3 h4;rw[<- h4];exact Tr.Gp aL cols t s y1 s1 h1 hs
theorem CJ{g:Bool}  :∀ {l:List (Tr×ByteArray)} {s:dE} {ys:List Tr} {hd:List aZ} {s':dE},dT g aL cols l s=.ok (ys,hd,s')->jJ s->jJ s'
 | [],s,ys,hd,s',h,hs=>by unfold dT at h;injection h with h;injection h with h1 h;injection h with h2 h3;rw[<- h3];exact hs
 |(t,nm)::l,s,ys,hd,s',h,hs=>by
  unfold dT at h;split at h
  ·cases h
  ·rename_i y k s1 h1;split at h
   ·cases h
   ·rename_i Xb NF s2 h2;injection h with h;injection h with h3 h;injection h with h4 h5;rw[<- h5];exact CJ h2 (CI h1 hs)
theorem zA{g:Bool}  :∀ {l:List Tr} {s:dE} {ys:List Tr} {s':dE},dB g aL cols l s=.ok (ys,s')->jJ s->jJ s'
 | [],s,ys,s',h,hs=>by unfold dB at h;injection h with h;injection h with h1 h2;rw[<- h2];exact hs
 | t::l,s,ys,s',h,hs=>by
   unfold dB at h;split at h
   ·cases h
   ·rename_i y k s1 h1;split at h
    ·cases h
    split at h
    ·cases h
    ·rename_i Xb s2 h2;injection h with h;injection h with h3 h4;rw[<- h4];exact zA h2 (CI h1 hs)
theorem CK{g:Bool}  :∀ {l:List (Tr×Bool)} {s:dE} {ys:List Tr} {s':dE},eu g aL cols l s=.ok (ys,s')->jJ s->jJ s'
 | [],s,ys,s',h,hs=>by unfold eu at h;injection h with h;injection h with h1 h2;rw[<- h2];exact hs
 |(t,d)::l,s,ys,s',h,hs=>by
  unfold eu at h;split at h
  ·cases h
  ·rename_i y k s1 h1;split at h
   ·cases h
   ·rename_i Xb s2 h2;injection h with h;injection h with h3 h4;rw[<- h4];exact CK h2 (CI h1 hs)
theorem zg2.KbI(h:p:=by exact CK h3 (zA h2 (CJ h1 (λ a ha=>by cases ha)))):p:=h
theorem Vh{q:Qy}  {p:ji}(h:ew q cols=.ok p):jJ p.st:=by
 open zg2 in exact ZeA
theorem zB{l:List Int}(h:∀e∈l,e=0):dp l=0:=by
 have:∀(l:List Int),(∀e∈l,e=0)->l.foldl rE 0=0:=by
  intro l
  induction l with
  | nil=>intro _;rfl
  | cons x l ih=>intro h;rw[foldl_cons,h x (mem_cons_self ..)];exact ih λ e he=>h e (mem_cons_of_mem _ he)
 exact this l h
theorem ZX (cols:List aZ)(rows:List (List Val)):dx cols [] rows=(rows,0):=by
 have h1:rows.filter (λ r=>(fI cols [] r).2==0 &&(fI cols [] r).1)=rows:=List.filter_eq_self.2 λ _ _=>rfl
 have h2:dp (rows.map λ r=>(fI cols [] r).2)=0:=zB λ e he=>by obtain⟨r,_,rfl⟩:=List.mem_map.1 he;rfl
 exact Prod.ext h1 h2
def mz:Qy:=⟨[],ByteArray.empty,false,[],[],[],[],[]⟩
def rW (cols:List aZ):ji:=⟨false,cols,⟨[],[]⟩,[],[],[]⟩
theorem Vi (cols:List aZ):ew mz cols=.ok (rW cols):=rfl
theorem agD(l:List α):BS (l.map Except.ok)=.ok l:=by
 unfold BS;rw[zB (λ e he=>by
  obtain⟨x,hx,rfl⟩:=List.mem_map.1 he
  obtain⟨y,_,rfl⟩:=List.mem_map.1 hx
  rfl)]
 rw[if_neg Taa,filterMap_map];congr 1;exact filterMap_some
theorem Mx (cols:List aZ)(rows:List (List Val)):pD mz cols rows=if rows.any (λ r=> !ib cols r)=true then .error 40 else .ok (cols,qm bu rows):=by
 unfold pD;rw[Vi];dsimp only;split
 ·rfl
 have h1:zh mz (rW cols) cols rows=.ok rows:=by unfold zh;rw[show(mz.cK)=[] from rfl,ZX];rfl
 rw[h1];dsimp only
 have h2:rG (rW cols) cols rows=.ok (rows.map λ r=>⟨r,[]⟩):=by
  unfold rG
  have e:∀r:List Val,(match bz (fZ (rW cols) cols) r ((rW cols).items++(rW cols).order)with | .error e=>(.error e:Except Int eI)| .ok l=> .ok (RY (rW cols) r l))=.ok ⟨r,[]⟩:=λ r=>by
   have e1:bz (fZ (rW cols) cols) r ((rW cols).items++(rW cols).order)=.ok []:=by show bz (fZ (rW cols) cols) r []=.ok [];simp[bz,Tr.gZ,cN]
   rw[e1];rfl
  have:=agD (rows.map λ r=>(⟨r,[]⟩:eI));rw[map_map] at this;rw[<- this];exact congrArg BS (map_congr_left λ r _=>e r)
 rw[h2];show Except.ok (cols,(mh [] (rows.map λ r=>(⟨r,[]⟩:eI))).map eI.row)=_;congr 2
 have key:∀l:List (List Val),(mh [] (l.map λ r=>(⟨r,[]⟩:eI)))=(qm bu l).map λ r=>⟨r,[]⟩:=by
  intro l;unfold mh
  induction l with
  | nil=>rfl
  | cons x l ih=>
    show Eo (ud []) ⟨x,[]⟩ (qm (ud []) (l.map λ r=>⟨r,[]⟩))=(Eo bu x (qm bu l)).map λ r=>⟨r,[]⟩
    rw[ih];generalize qm bu l=m
    induction m with
    | nil=>rfl
    | cons y m ih2=>
      rw[map_cons];unfold Eo;have e:ud [] ⟨x,[]⟩ ⟨y,[]⟩=bu x y:=rfl;rw[e];split
      ·rfl
      ·rw[map_cons,ih2]
 rw[key,map_map];exact map_id' _
theorem CM{c:α->α->Int} {k:α}:∀ {l:List α} {j:Nat} {x:α},(∀i y,i < j->l[i]?=some y->c y k < 0)->l[j]?=some x->c x k=0->jX c k l=l
 | [],j,x,_,h,_=>by simp at h
 | y::l,0,x,_,h,h0=>by simp at h;subst h;unfold jX;rw[if_neg WC,if_pos h0]
 | y::l,j+1,x,hl,h,h0=>by unfold jX;rw[if_pos (hl 0 y WC rfl),CM (j:=j) (λ i z hi hz=>hl (i+1) z WC Ta4) Tal h0]
theorem My{c:α->α->Int} {k:α}:∀ {l:List α} {j:Nat},j<=l.length->(∀i y,i < j->l[i]?=some y->c y k < 0)->(∀y,l[j]?=some y->0 < c y k)->jX c k l=l.take j++k::l.drop j
 | [],j,hj,_,_=>by simp at hj;subst hj;rfl
 | y::l,0,_,_,h=>by have h0:=h y rfl;unfold jX;rw[if_neg WC,if_neg WC];rfl
 | y::l,j+1,hj,hl,h=>by unfold jX;rw[if_pos (hl 0 y WC rfl),My (j:=j) (by simpa using hj) (λ i z hi hz=>hl (i+1) z WC Ta4) (λ z hz=>h z Ta4)];rfl
theorem CN (l:List (List Val))(k:List Val):jo (l++ [k])=jX bu k (jo l):=by unfold jo FI;rw[foldl_append];rfl
def fo (ng:Nat)(l:List (List Val)):List (List Val):=if ng=0 then [[]] else jo l
theorem ZY (ng:Nat)(l:List (List Val)):(fo ng l).Pairwise (λ a b=>bu a b < 0):=by
 unfold fo;split
 ·simp
 ·exact(vZ eD fG l).1
theorem yy (ng:Nat)(l:List (List Val)):(fo ng l).length<=l.length+1:=by
 unfold fo;split
 ·simp
 ·have:∀(l:List (List Val)),(jo l).length<=l.length:=by
   intro l
   have hk:∀(k:List Val) (m:List (List Val)),(jX bu k m).length<=m.length+1:=by
    intro k m
    induction m with
    | nil=>simp[jX]
    | cons x m ih=>
      unfold jX;split
      ·simp;omega
      ·split <;> simp
   suffices h:∀(l s:List (List Val)),(l.foldl (λ ks k=>jX bu k ks) s).length<=l.length+s.length by
    have:=h l [];simpa [jo,FI] using this
   intro l
   induction l with
   | nil=>intro s;simp
   | cons x l ih=>intro s;rw[foldl_cons];have h1:=ih (jX bu x s);have h2:=hk x s;simp only[length_cons];omega
  have:=this l;omega
def dV (ops:List Int)(ps:List (List Val×List (Val×Val)))(k:List Val):List St:=(List.range ops.length).map λ i=>ld (ops.getD i 0) (qB i ps k)
theorem ja (ops:List Int)(ps:List (List Val×List (Val×Val)))(k:List Val):dW ops ps k=(dV ops ps k).map gH:=by unfold dW dV;rw[map_map];rfl
theorem nD (ops:List Int)(ps:List (List Val×List (Val×Val)))(k:List Val):(dV ops ps k).length=ops.length:=by simp[dV]
variable{ps:List (List Val×List (Val×Val))}{k k':List Val}{pr:List (Val×Val)}
theorem Qb(h:bu k k'≠0):qB i (ps++ [(k,pr)]) k'=qB i ps k':=by unfold qB;rw[filter_append,map_append,filter_cons_of_neg Tal];simp
theorem Vj(h:bu k k'=0):qB i (ps++ [(k,pr)]) k'=qB i ps k'++ [pr.getD i (aP,aP)]:=by unfold qB;rw[filter_append,map_append,filter_cons_of_pos Tal];simp
theorem ZZ(h:∀p∈ps,bu p.1 k≠0):qB i ps k=[]:=by unfold qB;rw[List.filter_eq_nil_iff.2 λ p hp=>by simpa using h p hp];rfl
theorem Qc (op:Int)(l:List (Val×Val))(x:Val×Val):ld op (l++ [x])=(ld op l).feed x.1 x.2:=by unfold ld St.yV;rw[foldl_append];rfl
variable{ops:List Int}
theorem Je(h:bu k k'≠0):dV ops (ps++ [(k,pr)]) k'=dV ops ps k':=by
 unfold dV;exact map_congr_left λ i _=>by rw[Qb h]
theorem Mz(h:bu k k'=0)(hl:pr.length=ops.length):dV ops (ps++ [(k,pr)]) k'=List.zipWith (λ s p=>St.feed s p.1 p.2) (dV ops ps k') pr:=by
 apply ext_getElem
 ·simp[dV,hl]
 ·intro i h1 h2;have hi:i < ops.length:=by simpa [dV] using h1
  simp only[dV,getElem_zipWith,getElem_map,getElem_range];rw[Vj h,Qc,getD_eq_getElem?_getD (l:=pr),getElem?_eq_getElem (by omega:i < pr.length)];rfl
theorem CO(h:∀p∈ps,bu p.1 k≠0):dV ops ps k=ops.map fh:=by
 apply ext_getElem
 ·simp[dV]
 ·intro i h1 h2;have hi:i < ops.length:=by simpa using h2
  simp only[dV,getElem_map,getElem_range];rw[ZZ h,getD_eq_getElem?_getD,getElem?_eq_getElem hi];rfl
theorem Vk(kG:∀op∈ops,isAgg op=true)  :∀s∈dV ops ps k,∃op l,op∈ops/\l.length<=ps.length/\s=ld op l:=by
 intro s hs;unfold dV at hs;obtain⟨i,hi,rfl⟩:=List.mem_map.1 hs;have hi:i < ops.length:=List.mem_range.1 hi;refine⟨_,qB i ps k,?_,?_,rfl⟩
 ·rw[getD_eq_getElem?_getD,getElem?_eq_getElem hi];exact getElem_mem hi
 ·unfold qB;rw[length_map];exact length_filter_le _ _
theorem zf0.Kbi(h:p:=by
 unfold jy at gD;have pd:=aa gD;clear gD Hw;unfold cy at hex;go_wp2_with fail;have bY:=ah wr (.cells (ay bad) 46);refine(pd.ae _ (ai.then hb bY)).mono ?_;rintro e W3 ⟨rfl,b1⟩;unfold bT;have ek:=ai.then hb (ai.then bY b1);have t1:(er != 0)=true:=by have:=Ol.ae;simpa using this
 have t2:decide (er=0)=false:=by have:=Ol.ae;simpa using this
 clear bY b1 pd hex hb;go_wp2_with fail;exact bodyPost_ret (v:=.tuple #[az,af er]) Tbr rfl ⟨rfl,ai.then ek (ah W3 _)⟩):p:=h
theorem Qd (A:Option Addr)(n c:Nat)(cV rV:Value)(args:List (Ex×Val))(bad:Ex)(bv:Val)(er:Int)(post:List Ex)(w:World)(hn:args.length+1+post.length=n)(hl:n<=1599289640356)(hA:RE w w.heap.size A (args.map (·.1)++bad::post))(hE:∀a∈args,jy w cV rV a.1 a.2 0)(jS:jy w cV rV bad bv er)(her:er≠0):
  ar 34 #[.slice A n c,cV,rV] w λ e w'=>e=.returned (.tuple #[az,af er])/\aj w w':=by
 have HN:=aa hn;have Hw:=aa jS;have Ol:=aa her;clear hn jS her;have HA:=aa hA;have HE:=aa hE;clear hA hE;go_enter Tryz.func34,Tryz.ntmps34;go_wp2_with fail;go_loopw [8,15] (λ kv KK wr=>∃i:Nat,i<=args.length/\KK=af i/\aI aX 44 3 wr w.heap.size kv ((args.take i).map (·.2))/\aj w wr) (λ _ KK _=>args.length - (intOf KK).toNat);case atStart=>exact Zc7
 case round=>
  obtain⟨i,hk,rfl,hp,hb⟩:=hrel;have HP:=aa hp;clear hp;rcases Nat.lt_or_ge i args.length with hlt | vC
  ·have zQ:i < n:=by have:=HN.ae;omega
   obtain⟨b,off,rfl,kE,hex⟩:=(HA.ae.below hb).at_ (show i <(args.map (·.1)++bad::post).length by simp;omega);have jn:(args.map (·.1)++bad::post)[i]' Tab=args[i].1:=by rw[getElem_append_left Tan];simp
   exact Zaw
  ·open zf0 in exact Zdl
theorem Qe (A:Option Addr)(n c:Nat)(cV rV:Value)(args:List (Ex×Val))(w:World)(hn:args.length=n)(hl:n<=1599289640356)(hA:RE w w.heap.size A (args.map (·.1)))(hE:∀a∈args,jy w cV rV a.1 a.2 0):
  ar 34 #[.slice A n c,cV,rV] w λ e w'=>∃v,e=.returned (.tuple #[v,af 0])/\aI aX 44 3 w' w.heap.size v (args.map (·.2))/\aj w w':=by
 have HN:=aa hn;clear hn;have HA:=aa hA;have HE:=aa hE;clear hA hE;go_enter Tryz.func34,Tryz.ntmps34;go_wp2_with fail;go_loopw [8,15] (λ kv KK wr=>∃i:Nat,i<=args.length/\KK=af i/\aI aX 44 3 wr w.heap.size kv ((args.take i).map (·.2))/\aj w wr) (λ _ KK _=>args.length - (intOf KK).toNat);case atStart=>exact Zc7
 case round=>
  obtain⟨i,hk,rfl,hp,hb⟩:=hrel;have HP:=aa hp;clear hp;rcases Nat.lt_or_ge i args.length with hlt | vC
  ·have zQ:i < n:=by have:=HN.ae;omega
   obtain⟨b,off,rfl,kE,hex⟩:=(HA.ae.below hb).at_ (show i <(args.map (·.1)).length by simpa using hlt);have jn:(args.map (·.1))[i]' Tan=args[i].1:=by simp
   exact Zaw
  ·have lS:args.take i=args:=take_of_length_le vC;have zQ:¬i < n:=by have:=HN.ae;omega
   rw[lS] at HP;go_wp2_with fail;exact bodyPost_ret (v:=.tuple #[u8,af 0]) Tbr rfl ⟨_,rfl,HP.ae,hb⟩
end Go.Proofs.YtndgjggokjickaaGreatDoor
