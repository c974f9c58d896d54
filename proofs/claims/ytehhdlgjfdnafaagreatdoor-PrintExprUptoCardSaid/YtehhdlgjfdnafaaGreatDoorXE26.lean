/- Parts of the proof. -/
import Derived.Test.YtehhdlgjfdnafaaGreatDoorXE24
namespace Go.Proofs.YtehhdlgjfdnafaaGreatDoor
variable{p:Prop}
set_option maxHeartbeats 90000000
set_option maxRecDepth 100000
open Go.Lib (hid)
open Go.ChangeShapes Go.WideShapes Go.ChangeAt Go.RowKit List
set_option linter.unusedVariables false
set_option linter.unusedSimpArgs false
def qu0:Array Value:=(jE {}).toArray
theorem tI:(Tryz.prog.info? 28).map (·.size)=some 8:=by kernel_rfl
theorem UY (m:kM):(jE m).toArray.all (·.oneCell')=true:=by simp[jE,eU,Value.oneCell']
structure GQ (ρ:bj) (w:World) (lg dp:Bool) (wr:World) (l:aF) (m:kM) (d:Qu):Prop where
 did:aU ρ w wr l (lg || d.long) (dp || cR d.exprs)
 blk:av wr (w.heap.size+1+1) 28 (jE m).toArray
 res:av wr (w.heap.size+1) 28 qu0
 tF:av wr w.heap.size 77 #[ρ.ptr]
 at_:d.at_ wr (ep (w.heap.size+3) wr) m
section
variable {ρ:bj} {w wr w2:World} {lg dp:Bool} {l l2:aF} {m:kM} {d:Qu}
theorem GQ.later (A:GQ ρ w lg dp wr l m d)(hb:Below wr.heap.size wr w2):GQ ρ w lg dp w2 l m d:=⟨A.did.later hb,A.blk.later hb,A.res.later hb,A.tF.later hb,Qu.at_.keep (fE hb) A.at_⟩
theorem GQ.go (A:GQ ρ w lg dp wr l m d)(hg:ρ.g < w.heap.size)(D:aU ρ wr w2 l2 (lg || d.long) (dp || cR d.exprs)):GQ ρ w lg dp w2 l2 m d:=
 ⟨A.did.trans D,D.blk A.blk Taa,D.blk A.res Taa,D.blk A.tF Taa,Qu.at_.keep (eF D.grown Taa) A.at_⟩
theorem GQ.set {lg2 dp2:Bool} {m':kM} {d':Qu}(A:GQ ρ w lg dp wr l m d)(hg:ρ.g < w.heap.size)(D:aU ρ wr w2 l2 lg2 dp2)(i:Nat)(u:Value)(hb:(jE m').toArray=(jE m).toArray.setIfInBounds i u)(hl:lg2=(lg || d'.long))(hd:dp2=(dp || cR d'.exprs))(hat:d.at_ w2 (ep (w.heap.size+3) w2) m->Qu.at_ w2 (ep (w.heap.size+3) w2) d' m'):GQ ρ w lg dp (w2.setCell ⟨w.heap.size+1+1,i,none⟩ u) l2 m' d':=by
 refine⟨?_,?_,(D.blk A.res Taa).far (p:=⟨w.heap.size+1+1,i,none⟩) Tae u,(D.blk A.tF Taa).far (p:=⟨w.heap.size+1+1,i,none⟩) Tad u,Qu.at_.keep (ot (Nat.lt_succ_self _) i u) (hat (Qu.at_.keep (eF D.grown Taa) A.at_))⟩
 ·rw[<- hl,<- hd];exact(A.did.trans D).far hg Taa i u
 ·rw[hb];exact(D.blk A.blk Taa).cr i u
theorem GQ.ptr (A:GQ ρ w lg dp wr l m d):wr.cell? ⟨w.heap.size,0,none⟩=some ρ.ptr:=A.tF.cell 0
def Rf (ρ:bj)(w:World)(m:kM)(d:Qu)(k:Nat):tM:=⟨ρ,w,28,w.heap.size+1+1,k,w.heap.size,w.heap.size+3,(jE m).toArray,[(w.heap.size+1,28,qu0)],λ W S=>d.at_ W S m⟩
theorem FU (hg:ρ.g < w.heap.size)(k:Nat)(hk:k < 8):(Rf ρ w m d k).Fit:=
 ⟨hg,by show w.heap.size<=w.heap.size+1+1;omega,hg,by show w.heap.size≠w.heap.size+1+1;omega,Nat.lt_succ_self _,by show w.heap.size < w.heap.size+3;omega,λ x hx=>by simp[Rf] at hx;subst hx;exact⟨Nat.le_succ _,by show w.heap.size+1≠w.heap.size+1+1;omega,by show w.heap.size+1 < w.heap.size+3;omega⟩,by show k < 8;exact hk,λ w w' S S' h hk=>Qu.at_.keep hk h⟩
theorem GQ.start (A:GQ ρ w lg dp wr l m d) {α:Type}(E:El α)(T:TypeId)(k:Nat)(hk:(jE m).toArray.setIfInBounds k (.slice none 0 0)=(jE m).toArray):(Rf ρ w m d k).acc E T [] wr:=
 ⟨.slice none 0 0,by show av wr _ _ ((jE m).toArray.setIfInBounds k _);rw[hk];exact A.blk,iX.nil E T wr _,Qu.at_.keep (λ b hb=>⟨λ _=>rfl,hb.1,hb.2,by simp[Value.ownBlock]⟩) A.at_,by have:=A.blk.lt;show w.heap.size+3<=_;omega,A.tF,λ x hx=>by simp[Rf] at hx;subst hx;exact A.res⟩
theorem GQ.list {α:Type} {E:El α} {T:TypeId} {k:Nat} {xs:List α} {m':Sl->kM} {d':Qu} {lg2 dp2:Bool}(hs:(Rf ρ w m d k).acc E T xs w2)(D:aU ρ w w2 l2 lg2 dp2)(hm:∀sl,(jE (m' sl)).toArray=(jE m).toArray.setIfInBounds k (eU sl))(hl:lg2=(lg || d'.long))(hd:dp2=(dp || cR d'.exprs))(hat:∀sl,E.sl w2 (ep (w.heap.size+3) w2) sl xs->d.at_ w2 (ep (w.heap.size+3) w2) m->d'.at_ w2 (ep (w.heap.size+3) w2) (m' sl)):∃sl,GQ ρ w lg dp w2 l2 (m' sl) d':=by
 obtain⟨v,A⟩:=hs;obtain⟨sl,hv,_,ja⟩:=A.row.sl (B':=w.heap.size+3) (Nat.le_refl _);refine⟨sl,?_,?_,A.UO (w.heap.size+1,28,qu0) (by simp[Rf]),A.tF,hat sl ja (Qu.at_.keep (Bf (Nat.le_refl _)) A.kp)⟩
 ·rw[<- hl,<- hd];exact D
 ·rw[hm,<- hv];exact A.blk
end
def UZ (ρ:bj)(w:World)(lg dp:Bool)(l:aF)(e:Ending)(w':World):Prop:=
 GP ρ w cQ l (λ d r v w'=>∃m:kM,v=GJ m/\d.at_ w' (ep w.heap.size w') m/\aU ρ w w' r (lg || d.long) (dp || cR d.exprs)) e w'
variable{ρ:bj}{w wr:World}{lg dp:Bool}{l l0:aF}{m:kM}{d:Qu}
theorem GQ.post(A:GQ ρ w lg dp wr l m d)(hg:ρ.g < w.heap.size)(hp:cQ l0=.ok (d,l)):UZ ρ w lg dp l0 (.returned (GJ m)) (wr.setRow (w.heap.size+1) (jE m).toArray):=
 GP.ok hp ⟨m,rfl,Qu.at_.keep (gy Taa) (Qu.at_.keep (ie wr (show w.heap.size+1 < w.heap.size+3 by omega) _) A.at_),A.did.own hg (cx wr _ _) (λ G e=>by injection e with e;omega)⟩
theorem YF(h:ar eK l=true):rM l=.ok ([],l.tail):=by unfold rM;rw[bK];simp only[h,if_true];rfl
theorem YG(h:ar eK l=false):rM l=dC nz l:=by unfold rM;exact Zgh
theorem Va(h:ar iE l=false):ql l=.ok ([],l):=by unfold ql;exact Zgh
theorem Qr(h:ar iE l=true):ql l=(do must mJ;dC ey:Ps (List Tr)) l.tail:=by unfold ql;exact Zgf
theorem Qs(h:ar iF l=false):mK l=.ok ([],l):=by unfold mK;exact Zgh
theorem Ma(h:ar iF l=true):mK l=(do must mJ;dC km:Ps (List (Tr×Bool))) l.tail:=by unfold mK;exact Zgf
theorem Vb(h:ar jf l=false):rN l=.ok ([],l):=by unfold rN;exact Zgh
theorem Qt(h:ar jf l=true):rN l=(do let n <- mq;return [n]:Ps (List Int)) l.tail:=by unfold rN;exact Zgf
def cF:Array Value:=(bI {}).toArray
def gi (m:fX):Obj:=.cells (bI m).toArray 34
theorem bT:(Tryz.prog.info? 34).map (·.size)=some 28:=by kernel_rfl
theorem cL (m:fX):(bI m).toArray.all (·.oneCell')=true:=by simp[bI,jE,eU,fg,Value.oneCell']
def cy (ρ:bj)(w:World)(lg dp:Bool)(P:Ps St)(l:aF)(e:Ending)(w':World):Prop:=
 GP ρ w P l (λ d r v w'=>∃m:fX,v=mC m/\d.at_ w' (ep w.heap.size w') m/\aU ρ w w' r (lg || d.long) (dp || cR d.exprs)) e w'
structure yL (ρ:bj) (w:World) (q:Nat) (wB:List Nat) (lg dp:Bool) (wr:World) (l:aF):Prop where
 did:aU ρ w wr l lg dp
 res:av wr q 34 cF
 qw:w.heap.size<=q
 tF:∀p∈wB,w.heap.size<=p/\p≠q/\av wr p 77 #[ρ.ptr]
structure tT (ρ:bj) (w:World) (q:Nat) (wB:List Nat) (lg dp:Bool) (b:Nat) (wr:World) (l:aF) (m:fX) (d:St):Prop where
 sa:yL ρ w q wB (lg || d.long) (dp || cR d.exprs) wr l
 blk:av wr b 34 (bI m).toArray
 at_:d.at_ wr (ep (b+1) wr) m
 qb:q < b
 pb:∀p∈wB,p < b
section
variable {ρ:bj} {w wr w2:World} {q b:Nat} {wB:List Nat} {lg dp lg2 dp2:Bool} {l l2:aF} {m:fX} {d:St}
theorem yL.later (A:yL ρ w q wB lg dp wr l)(hb:Below wr.heap.size wr w2):yL ρ w q wB lg dp w2 l:=
 ⟨A.did.later hb,A.res.later hb,A.qw,λ p hp=>by obtain⟨a,c,h⟩:=A.tF p hp;exact⟨a,c,h.later hb⟩⟩
theorem yL.go (A:yL ρ w q wB lg dp wr l)(hg:ρ.g < w.heap.size)(D:aU ρ wr w2 l2 lg2 dp2):yL ρ w q wB lg2 dp2 w2 l2:=by have hq:=A.qw;exact⟨A.did.trans D,D.blk A.res Taa,A.qw,λ p hp=>by obtain⟨a,c,h⟩:=A.tF p hp;exact⟨a,c,D.blk h Taa⟩⟩
theorem yL.ptr {p:Nat}(A:yL ρ w q [p] lg dp wr l):wr.cell? ⟨p,0,none⟩=some ρ.ptr:=(A.tF p Tae).2.2.cell 0
theorem yL.start (A:yL ρ w q wB lg dp wr l)(m:fX)(d:St)(hpl:∀p∈wB,p < wr.heap.size)(hl:lg2=(lg || d.long))(hd:dp=(dp2 || cR d.exprs))(Co:lg=(lg2 || d.long))(hat:∀W S,St.at_ W S d m):tT ρ w q wB lg2 dp2 wr.heap.size (wr.alloc (gi m)) l m d:=by have hb:=aa wr (gi m);exact⟨by rw[<- Co,<- hd];exact A.later hb,av.new wr _ _,hat _ _,A.res.lt,hpl⟩
theorem tT.later (A:tT ρ w q wB lg dp b wr l m d)(hb:Below wr.heap.size wr w2):tT ρ w q wB lg dp b w2 l m d:=
 ⟨A.sa.later hb,A.blk.later hb,St.at_.keep (fE hb) A.at_,A.qb,A.pb⟩
theorem tT.go (A:tT ρ w q wB lg dp b wr l m d)(hg:ρ.g < w.heap.size)(D:aU ρ wr w2 l2 (lg || d.long) (dp || cR d.exprs)):tT ρ w q wB lg dp b w2 l2 m d:=by have hq:=A.qb;have hw:=A.sa.qw;exact⟨A.sa.go hg D,D.blk A.blk Taa,St.at_.keep (eF D.grown Taa) A.at_,A.qb,A.pb⟩
theorem tT.set {m':fX} {d':St}(A:tT ρ w q wB lg dp b wr l m d)(hg:ρ.g < w.heap.size)(D:aU ρ wr w2 l2 lg2 dp2)(i:Nat)(u:Value)(hb:(bI m').toArray=(bI m).toArray.setIfInBounds i u)(hl:lg2=(lg || d'.long))(hd:dp2=(dp || cR d'.exprs))(hat:d.at_ w2 (ep (b+1) w2) m->St.at_ w2 (ep (b+1) w2) d' m'):tT ρ w q wB lg dp b (w2.setCell ⟨b,i,none⟩ u) l2 m' d':=by
 have hq:=A.qb;have hw:=A.sa.qw;have S:=A.sa.go hg D;refine⟨⟨?_,S.res.far (p:=⟨b,i,none⟩) Tad u,S.qw,λ p hp=>?_⟩,?_,St.at_.keep (ot (Nat.lt_succ_self _) i u) (hat (St.at_.keep (eF D.grown Taa) A.at_)),A.qb,A.pb⟩
 ·rw[<- hl,<- hd];exact S.did.far hg Taa i u
 ·obtain⟨a,c,h⟩:=S.tF p hp;have:=A.pb p hp;exact⟨a,c,h.far (p:=⟨b,i,none⟩) Tad u⟩
 ·rw[hb];exact(D.blk A.blk Taa).cr i u
def YM (ρ:bj)(w:World)(q p b:Nat)(m:fX)(d:St)(k:Nat):tM:=⟨ρ,w,34,b,k,p,b+1,(bI m).toArray,[(q,34,cF)],λ W S=>d.at_ W S m⟩
theorem tT.fit {p:Nat}(A:tT ρ w q [p] lg dp b wr l m d)(hg:ρ.g < w.heap.size)(k:Nat)(hk:k < 28):(YM ρ w q p b m d k).Fit:=by have hq:=A.qb;have hw:=A.sa.qw;have hp:=A.pb p Tae;obtain⟨h1,h2,_⟩:=A.sa.tF p Tae;exact⟨hg,by show w.heap.size<=b;omega,by show ρ.g < p;omega,by show p≠b;omega,Nat.lt_succ_self _,by show p < b+1;omega,λ x hx=>by simp[YM] at hx;subst hx;exact⟨hw,by show q≠b;omega,by show q < b+1;omega⟩,by show k < 28;exact hk,λ w w' S S' h hk=>St.at_.keep hk h⟩
theorem tT.start {p:Nat}(A:tT ρ w q [p] lg dp b wr l m d) {α:Type}(E:El α)(T:TypeId)(k:Nat)(hk:(bI m).toArray.setIfInBounds k (.slice none 0 0)=(bI m).toArray):(YM ρ w q p b m d k).acc E T [] wr:=
 ⟨.slice none 0 0,by show av wr _ _ ((bI m).toArray.setIfInBounds k _);rw[hk];exact A.blk,iX.nil E T wr _,St.at_.keep (λ b hb=>⟨λ _=>rfl,hb.1,hb.2,by simp[Value.ownBlock]⟩) A.at_,by have:=A.blk.lt;show b+1<=_;omega,(A.sa.tF p Tae).2.2,λ x hx=>by simp[YM] at hx;subst hx;exact A.sa.res⟩
theorem tT.list {p:Nat} {α:Type} {E:El α} {T:TypeId} {k:Nat} {xs:List α} {m':Sl->fX} {d':St}(A:tT ρ w q [p] lg dp b wr l m d)(hs:(YM ρ w q p b m d k).acc E T xs w2)(D:aU ρ w w2 l2 lg2 dp2)(hm:∀sl,(bI (m' sl)).toArray=(bI m).toArray.setIfInBounds k (eU sl))(hl:lg2=(lg || d'.long))(hd:dp2=(dp || cR d'.exprs))(hat:∀sl,E.sl w2 (ep (b+1) w2) sl xs->d.at_ w2 (ep (b+1) w2) m->d'.at_ w2 (ep (b+1) w2) (m' sl)):∃sl,tT ρ w q [p] lg dp b w2 l2 (m' sl) d':=by
 obtain⟨v,B⟩:=hs;obtain⟨sl,hv,_,ja⟩:=B.row.sl (B':=b+1) (Nat.le_refl _);obtain⟨h1,h2,_⟩:=A.sa.tF p Tae;refine⟨sl,⟨?_,B.UO (q,34,cF) (by simp[YM]),A.sa.qw,λ p' hp=>by simp at hp;subst hp;exact⟨h1,h2,B.tF⟩⟩,?_,hat sl ja (St.at_.keep (Bf (Nat.le_refl _)) B.kp),A.qb,A.pb⟩
 ·rw[<- hl,<- hd];exact D
 ·rw[hm,<- hv];exact B.blk
theorem tT.post {P:Ps St} {l0:aF}(A:tT ρ w q wB lg dp b wr l m d)(hg:ρ.g < w.heap.size)(hp:P l0=.ok (d,l)):cy ρ w lg dp P l0 (.returned (mC m)) (wr.setRow q (bI m).toArray):=by have hq:=A.qb;have hw:=A.sa.qw;exact GP.ok hp ⟨m,rfl,St.at_.keep (gy Taa) (St.at_.keep (ie wr (show q < b+1 by omega) _) A.at_),A.sa.did.own hg (cx wr _ _) (λ G e=>by injection e with e;omega)⟩
end
def CB:Obj:=.cells #[.slice none 0 0,.string ⟨#[]⟩,.bool false,.slice none 0 0,.slice none 0 0,.slice none 0 0,.slice none 0 0,.slice none 0 0] 28
def aal (items:List (Tr×ByteArray))(only:Bool)(aN:ByteArray)(aP group having:List Tr)(order:List (Tr×Bool)):Ps Qu:=do
 let aQ <- rN
 return { items,aN,only,aP,group,having,order,aQ }
def afv (items:List (Tr×ByteArray))(only:Bool)(aN:ByteArray)(aP group having:List Tr):Ps Qu:=do
 let order <- mK
 aal items only aN aP group having order
def aam (items:List (Tr×ByteArray))(only:Bool)(aN:ByteArray)(aP group:List Tr):Ps Qu:=do
 let having <- gj lY
 afv items only aN aP group having
def afw (items:List (Tr×ByteArray))(only:Bool)(aN:ByteArray)(aP:List Tr):Ps Qu:=do
 let group <- ql
 aam items only aN aP group
def afx (items:List (Tr×ByteArray))(only:Bool)(aN:ByteArray):Ps Qu:=do
 let aP <- gj cV
 afw items only aN aP
def afy (items:List (Tr×ByteArray))(only:Bool):Ps Qu:=do
 let aN <- ct
 afx items only aN
def afz (items:List (Tr×ByteArray)):Ps Qu:=do
 let only <- may js
 afy items only
def aan (items:List (Tr×ByteArray)):Ps Qu:=do
 must bZ
 afz items
def afA:Ps Qu:=do
 let items <- rM
 aan items
variable{S:Nat->Prop}{G:Nat}{k:Int}
theorem Vc(h:av w G 2 #[.int .i64 k])(hS:S G):Mo.sl w S ⟨some ⟨G,0,none⟩,1,1⟩ [k]:=
 ⟨rfl,[k],uj (f:=λ k:Int=> [Value.int .i64 k]) (λ _=>rfl) h hS,.one rfl⟩
theorem zig.KcO(h:p:=by
 intro e w8b hp
 rcases hp.cases with ⟨_,l8b,v9,ay,rfl,rfl,d⟩|⟨m,au,rfl,hg⟩;case inr=>
  have CC:must mJ l7.tail=.error m:=by rw[<- ax];exact au
  have HF:=hid (show cQ l=.error m from HE7.out.trans (ak (HW.out.trans (ak CC))));have HG:=hid HB.out.did.grown;clear hp au CC;go_wp2_with fail;exact aj rfl (GP.err HF.out ⟨rfl,ai HG.out hg⟩)
 have jx:must mJ l7.tail=.ok ((),l8b):=by rw[<- ax];exact ay
 have afC:=hid (show ql l7=dC ey l8b from HW.out.trans (ag jx));have Vd:=hid (HB.out.go aZ d);clear hp ay jx d HB hq;have p0:=Vd.out.ptr;have hq:=Vd.out.blk.lt;have F:=FU (ρ:=ρ) (w:=w) (m:= { items:=sl,only:=only,aN:=aN,aP:=sw }) (d:= { items:=items,only:=only,aN:=aN,aP:=aP }) aZ 4 Tac
 have L:Lst ρ w (λ t=>decide (32 < t.depth)) ey 151 #[.pointer (some ⟨w.heap.size+1+1,0,none⟩),.pointer (some ⟨w.heap.size,0,none⟩)] ((Rf ρ w { items:=sl,only:=only,aN:=aN,aP:=sw } { items:=items,only:=only,aN:=aN,aP:=aP } 4).acc eJ 36):=
  ⟨jP,enters_of Tryz.func151 Tab rfl,λ acc a b hs hg _=>by obtain⟨v,h⟩:=hs;exact⟨v,h.grown F hg⟩,λ acc W l lg dp hn hs hd=>IZ (Rf ρ w { items:=sl,only:=only,aN:=aN,aP:=sw } { items:=items,only:=only,aN:=aN,aP:=aP } 4) F rfl rfl acc W l lg dp hn hs hd⟩
 have hm:=nj ρ w (λ t=>decide (32 < t.depth)) ey 151 #[.pointer (some ⟨w.heap.size+1+1,0,none⟩),.pointer (some ⟨w.heap.size,0,none⟩)] _ L w8b l8b _ _ Vd.out.did (Vd.out.start eJ 36 4 rfl) aZ;clear L F;go_wp2_with fail;refine hm.mono ?_;clear hm p0;intro e w8c hp;unfold ij at hp
 cases hx:dC ey l8b with
 | error m=>rw[hx] at hp;obtain⟨rfl,hg⟩:=hp;have HF:=hid (show cQ l=.error m from HE7.out.trans (ak (afC.out.trans hx)));exact Zcb
 | ok z=>obtain⟨xs,l8c⟩:=z;rw[hx] at hp;obtain⟨rfl,hs,hd⟩:=hp;obtain⟨so,hA⟩:=GQ.list (lg:=lg) (dp:=dp) (m':=λ so=> { items:=sl,only:=only,aN:=aN,aP:=sw,group:=so }) (d':= { items:=items,only:=only,aN:=aN,aP:=aP,group:=xs }) hs hd (λ _=>rfl) Tax Tak (λ so ja hat=> { hat with group:=ja });have HAX:=hid hA;have Ge:=hid (HE7.out.trans (ag (afC.out.trans hx)));clear hx hA hs hd Vd;go_wp2_with fail;go_meet;exact⟨xs,so,l8c,Ge.out,HAX.out⟩):p:=h
theorem zih.KcO(h:p:=by
 intro e ajX hp
 rcases hp.cases with ⟨_,YI,v9,ay,rfl,rfl,d⟩|⟨m,au,rfl,hg⟩;case inr=>
  have CC:must mJ l10.tail=.error m:=by rw[<- ax];exact au
  have HF:=hid (show cQ l=.error m from LM.out.trans (ak (HW.out.trans (ak CC))));have HG:=hid HB.out.did.grown;clear hp au CC;go_wp2_with fail;exact aj rfl (GP.err HF.out ⟨rfl,ai HG.out hg⟩)
 have jx:must mJ l10.tail=.ok ((),YI):=by rw[<- ax];exact ay
 have G5:=hid (show mK l10=dC km YI from HW.out.trans (ag jx));have Je:=hid (HB.out.go aZ d);clear hp ay jx d HB hq;have p0:=Je.out.ptr;have hq:=Je.out.blk.lt;have F:=FU (ρ:=ρ) (w:=w) (m:= { items:=sl,only:=only,aN:=aN,aP:=sw,group:=sg,having:=sh }) (d:= { items:=items,only:=only,aN:=aN,aP:=aP,group:=group,having:=having }) aZ 6 Tac
 have L:Lst ρ w (λ x=>decide (32 < x.1.depth)) km 152 #[.pointer (some ⟨w.heap.size,0,none⟩),.pointer (some ⟨w.heap.size+1+1,0,none⟩)] ((Rf ρ w { items:=sl,only:=only,aN:=aN,aP:=sw,group:=sg,having:=sh } { items:=items,only:=only,aN:=aN,aP:=aP,group:=group,having:=having } 6).acc mI 86):=
  ⟨ma,enters_of Tryz.func152 Tab rfl,λ acc a b hs hg _=>by obtain⟨v,h⟩:=hs;exact⟨v,h.grown F hg⟩,λ acc W l lg dp hn hs hd=>Jc (Rf ρ w { items:=sl,only:=only,aN:=aN,aP:=sw,group:=sg,having:=sh } { items:=items,only:=only,aN:=aN,aP:=aP,group:=group,having:=having } 6) F rfl rfl acc W l lg dp hn hs hd⟩
 have hm:=nj ρ w (λ x=>decide (32 < x.1.depth)) km 152 #[.pointer (some ⟨w.heap.size,0,none⟩),.pointer (some ⟨w.heap.size+1+1,0,none⟩)] _ L ajX YI _ _ Je.out.did (Je.out.start mI 86 6 rfl) aZ;clear L F;go_wp2_with fail;refine hm.mono ?_;clear hm p0;intro e aqx hp;unfold ij at hp
 cases hx:dC km YI with
 | error m=>rw[hx] at hp;obtain⟨rfl,hg⟩:=hp;have HF:=hid (show cQ l=.error m from LM.out.trans (ak (G5.out.trans hx)));exact Zcb
 | ok z=>obtain⟨xs,ajY⟩:=z;rw[hx] at hp;obtain⟨rfl,hs,hd⟩:=hp;obtain⟨so,hA⟩:=GQ.list (lg:=lg) (dp:=dp) (m':=λ so=> { items:=sl,only:=only,aN:=aN,aP:=sw,group:=sg,having:=sh,order:=so }) (d':= { items:=items,only:=only,aN:=aN,aP:=aP,group:=group,having:=having,order:=xs }) hs hd (λ _=>rfl) Tax Tak (λ so ja hat=> { hat with order:=ja });have HAX:=hid hA;have Ge:=hid (LM.out.trans (ag (G5.out.trans hx)));clear hx hA hs hd Je;go_wp2_with fail;go_meet;exact⟨xs,so,ajY,Ge.out,HAX.out⟩):p:=h
theorem zij.KcP(h:p:=by
 clear hm p0;intro e w4 hp
 rcases hp.cases with ⟨_,l4,v9,ay,rfl,rfl,d⟩|⟨m,au,rfl,hg⟩;case inr=>
  have CC:must bZ l3=.error m:=by rw[<- ax];exact au
  have HF:=hid (show cQ l=.error m from tq.out.trans (ak CC));have HG:=hid HB.out.did.grown;clear hp au CC;go_wp2_with fail;exact aj rfl (GP.err HF.out ⟨rfl,ai HG.out hg⟩)
 have jx:must bZ l3=.ok ((),l4):=by rw[<- ax];exact ay
 have JA:=hid (show cQ l=afz items l4 from tq.out.trans (ag jx));have pT:=hid (HB.out.go aZ d);clear hp ay jx d HB hq;have p0:=pT.out.ptr;have hm:=bk ρ w4 l4 _ _ pT.out.did.at_ ⟨#[111,110,108,121]⟩;rw[show(⟨#[111,110,108,121]⟩:ByteArray).data.toList=js from rfl] at hm;go_wp2_with fail;refine hm.mono ?_;clear hm p0;rintro e w5 ⟨rfl,d⟩;have hX:=d.blk pT.out.blk Taa;have hc:w5.cell? ⟨w.heap.size+1+1,2,none⟩=_:=hX.cell 2;have hf:w5.frozen? ⟨w.heap.size+1+1,2,none⟩=_:=hX.frozen 2;have Cx:=hid (pT.out.set (m':= { items:=sl,only:=ar js l4 }) (d':= { items:=items,only:=ar js l4 }) aZ d 2 (.bool (ar js l4)) rfl (rfl) (rfl) (λ hat=> { hat with only:=rfl }));have HE5:=hid (show cQ l=afy items (ar js l4) (ig js l4)from JA.out.trans (ag (sB js l4)));clear hX d pT;generalize ar js l4=only at*;generalize ig js l4=l5 at*;clear JA tq;go_upto_region 7 with fail;clear hc hf;generalize w5.setCell _ _=W5 at*;have p0:=Cx.out.ptr;go_wp2_with fail;refine(dN ρ W5 l5 _ _ Cx.out.did.at_).mono ?_;clear p0;intro e w6 hp;rcases hp.cases with ⟨aN,l6,v9,ay,rfl,rfl,d⟩|⟨m,au,rfl,hg⟩;case inr=>have HF:=hid (show cQ l=.error m from HE5.out.trans (ak au));have HG:=hid Cx.out.did.grown;clear hp au;go_wp2_with fail;exact aj rfl (GP.err HF.out ⟨rfl,ai HG.out hg⟩)
 have hX:=d.blk Cx.out.blk Taa;have hc:w6.cell? ⟨w.heap.size+1+1,1,none⟩=_:=hX.cell 1;have hf:w6.frozen? ⟨w.heap.size+1+1,1,none⟩=_:=hX.frozen 1;have zt:=hid (Cx.out.set (m':= { items:=sl,only:=only,aN:=aN }) (d':= { items:=items,only:=only,aN:=aN }) aZ d 1 (.string aN) rfl (rfl) (rfl) (λ hat=> { hat with aN:=rfl }));have HE6:=hid (show cQ l=afx items only aN l6 from HE5.out.trans (ag ay));clear hp ay hX d Cx HE5;go_upto_region 8 with fail;clear hc hf;generalize w6.setCell _ _=W6 at*;have p0:=zt.out.ptr;have hq:=zt.out.blk.lt;have hm:=uO ρ W6 l6 _ _ zt.out.did.at_ cV;rw[show cV.toArray= #[119,104,101,114,101] from rfl] at hm;go_wp2_with fail;refine hm.mono ?_;clear hm p0;intro e w7 hp;rcases GP.cases hp with ⟨aP,l7,v9,ay,rfl,⟨A,n,c⟩,rfl,ja,d⟩|⟨m,au,rfl,hg⟩;case inr=>have HF:=hid (show cQ l=.error m from HE6.out.trans (ak au));have HG:=hid zt.out.did.grown;clear hp au;go_wp2_with fail;exact aj rfl (GP.err HF.out ⟨rfl,ai HG.out hg⟩)
 have hX:=d.blk zt.out.blk Taa;have hc:w7.cell? ⟨w.heap.size+1+1,3,none⟩=_:=hX.cell 3;have hf:w7.frozen? ⟨w.heap.size+1+1,3,none⟩=_:=hX.frozen 3;have YH:=hid (zt.out.set (m':= { items:=sl,only:=only,aN:=aN,aP:=⟨A,n,c⟩}) (d':= { items:=items,only:=only,aN:=aN,aP:=aP }) aZ d 3 (.slice A n c) rfl Tax Tak (λ hat=> { hat with aP:=El.lies.more ja Taa}));have HE7:=hid (show cQ l=afw items only aN aP l7 from HE6.out.trans (ag ay));clear hp ay ja hq hX d zt HE6;unfold eU;go_upto_region 9 with fail;obtain⟨sw,hsw⟩:∃s:Sl,s=⟨A,n,c⟩:=⟨_,rfl⟩;rw[<- hsw] at YH;clear hsw hc hf;generalize w7.setCell _ _=W7 at*;have p0:=YH.out.ptr;have hm:=bk ρ W7 l7 _ _ YH.out.did.at_ ⟨#[103,114,111,117,112]⟩;rw[show(⟨#[103,114,111,117,112]⟩:ByteArray).data.toList=iE from rfl] at hm;go_upto_if 26 with fail;refine hm.mono ?_;clear hm p0;rintro e w8 ⟨rfl,d⟩;have zu:=hid (YH.out.go aZ d);clear d YH;go_upto_if 26 with fail;go_cut [] (λ wx=>∃(group:List Tr) (so:Sl) (l':aF),cQ l=aam items only aN aP group l'/\GQ ρ w lg dp wx l' { items:=sl,only:=only,aN:=aN,aP:=sw,group:=so } { items:=items,only:=only,aN:=aN,aP:=aP,group:=group })
 case first=>
  cases hst:ar iE l7
  ·rw[bS hst] at zu;have Ge:=hid (show cQ l=aam items only aN aP [] l7 from HE7.out.trans (ag (Va hst)));clear hst;go_wp2_with fail;go_meet;exact⟨[],Sl.nil,_,Ge.out,zu.out⟩
  ·rw[cg hst] at zu;have HW:=hid (Qr hst);clear hst;have hb:=aa w8 (.cells (aK [mJ]) 9);have HB:=hid (zu.out.later hb);have hq:=zu.out.blk.lt;have p0:=zu.out.ptr;have hm:=aR ρ _ l7.tail _ _ HB.out.did.at_ [mJ] w8.heap.size 1 rfl (av.new w8 _ _) Taa Taa;clear hb zu;open zig in exact Zha
 case rest=>
  obtain⟨group,sg,l9,hE,hA⟩:=hcut;have bH:=hid hE;have eZ:=hid hA;clear hE hA zu HE7;have p0:=eZ.out.ptr;have hq:=eZ.out.blk.lt;have hm:=uO ρ wc l9 _ _ eZ.out.did.at_ lY;rw[show lY.toArray= #[104,97,118,105,110,103] from rfl] at hm;go_wp2_with fail;refine hm.mono ?_;clear hm p0;intro e uF hp;rcases GP.cases hp with ⟨having,l10,v9,ay,rfl,⟨A,n,c⟩,rfl,ja,d⟩|⟨m,au,rfl,hg⟩;case inr=>have HF:=hid (show cQ l=.error m from bH.out.trans (ak au));have HG:=hid eZ.out.did.grown;clear hp au;go_wp2_with fail;exact aj rfl (GP.err HF.out ⟨rfl,ai HG.out hg⟩)
  have hX:=d.blk eZ.out.blk Taa;have hc:uF.cell? ⟨w.heap.size+1+1,5,none⟩=_:=hX.cell 5;have hf:uF.frozen? ⟨w.heap.size+1+1,5,none⟩=_:=hX.frozen 5;have Bq:=hid (eZ.out.set (m':= { items:=sl,only:=only,aN:=aN,aP:=sw,group:=sg,having:=⟨A,n,c⟩}) (d':= { items:=items,only:=only,aN:=aN,aP:=aP,group:=group,having:=having }) aZ d 5 (.slice A n c) rfl Tax Tak (λ hat=> { hat with having:=El.lies.more ja Taa}));have LM:=hid (show cQ l=afv items only aN aP group having l10 from bH.out.trans (ag ay));clear hp ay ja hq hX d eZ bH;unfold eU;go_upto_region 13 with fail;obtain⟨sh,NS⟩:∃s:Sl,s=⟨A,n,c⟩:=⟨_,rfl⟩;rw[<- NS] at Bq;clear NS hc hf;generalize uF.setCell _ _=W10 at*;have p0:=Bq.out.ptr;have hm:=bk ρ W10 l10 _ _ Bq.out.did.at_ ⟨#[111,114,100,101,114]⟩;rw[show(⟨#[111,114,100,101,114]⟩:ByteArray).data.toList=iF from rfl] at hm;go_upto_if 37 with fail;refine hm.mono ?_;clear hm p0;rintro e Dx ⟨rfl,d⟩;have Jd:=hid (Bq.out.go aZ d);clear d Bq;go_upto_if 37 with fail;go_cut [] (λ wx=>∃(order:List (Tr×Bool)) (so:Sl) (l':aF),cQ l=aal items only aN aP group having order l'/\GQ ρ w lg dp wx l' { items:=sl,only:=only,aN:=aN,aP:=sw,group:=sg,having:=sh,order:=so } { items:=items,only:=only,aN:=aN,aP:=aP,group:=group,having:=having,order:=order })
  case first=>
   cases hst:ar iF l10
   ·rw[bS hst] at Jd;have Ge:=hid (show cQ l=aal items only aN aP group having [] l10 from LM.out.trans (ag (Qs hst)));clear hst;go_wp2_with fail;go_meet;exact⟨[],Sl.nil,_,Ge.out,Jd.out⟩
   ·rw[cg hst] at Jd;have HW:=hid (Ma hst);clear hst;have hb:=aa Dx (.cells (aK [mJ]) 9);have HB:=hid (Jd.out.later hb);have hq:=Jd.out.blk.lt;have p0:=Jd.out.ptr;have hm:=aR ρ _ l10.tail _ _ HB.out.did.at_ [mJ] Dx.heap.size 1 rfl (av.new Dx _ _) Taa Taa;clear hb Jd;open zih in exact Zha
  case rest=>
   obtain⟨order,so,Rh,hE,hA⟩:=hcut;have YJ:=hid hE;have YK:=hid hA;clear hE hA Jd LM;have p0:=YK.out.ptr;have hm:=bk ρ wc Rh _ _ YK.out.did.at_ ⟨#[108,105,109,105,116]⟩;rw[show(⟨#[108,105,109,105,116]⟩:ByteArray).data.toList=jf from rfl] at hm;go_wp2_with fail;refine hm.mono ?_;clear hm p0;rintro e Ij ⟨rfl,d⟩;have xC:=hid (YK.out.go aZ d);clear d YK;cases hst:ar jf Rh
   ·rw[bS hst] at xC;have Ge:=hid (show cQ l=.ok ({ items:=items,only:=only,aN:=aN,aP:=aP,group:=group,having:=having,order:=order },Rh)from YJ.out.trans ((ag (Vb hst)).trans rfl));clear hst;go_wp2_with (first
     |(refine wpList_load_row rfl 28 (.tmp 3) rfl (w.heap.size+1+1) rfl 28 _ (0,0) _ xC.out.blk Tryz.underlying28 rfl tI ?_)
     |(refine wpList_store_row rfl 28 (.tmp 2) (.tmp 50) rfl (w.heap.size+1) (jE { items:=sl,only:=only,aN:=aN,aP:=sw,group:=sg,having:=sh,order:=so }).toArray rfl rfl 28 qu0 xC.out.res tI rfl (UY _) ?_
       have HR:=hid (xC.out.res.row (jE { items:=sl,only:=only,aN:=aN,aP:=sw,group:=sg,having:=sh,order:=so }).toArray)))
    exact bodyPost_ret (v:=GJ { items:=sl,only:=only,aN:=aN,aP:=sw,group:=sg,having:=sh,order:=so }) (results_cell_row Tryz.results113 _ _ (w.heap.size+1) 28 (jE { items:=sl,only:=only,aN:=aN,aP:=sw,group:=sg,having:=sh,order:=so }).toArray (0,0) _ rfl HR.out Tryz.underlying28 rfl tI) rfl (xC.out.post aZ Ge.out)
   ·rw[cg hst] at xC;have HW:=hid (Qt hst);clear hst;have p0:=xC.out.ptr;go_wp2_with fail;refine(dP ρ Ij _ _ _ xC.out.did.at_).mono ?_;clear p0;intro e Fs hp;rcases hp.cases with ⟨k,Nx,v9,ay,rfl,rfl,_,d⟩|⟨m,au,rfl,hg⟩;case inr=>have HF:=hid (show cQ l=.error m from YJ.out.trans (ak (HW.out.trans (ak au))));have HG:=hid xC.out.did.grown;clear hp au;go_wp2_with fail;exact aj rfl (GP.err HF.out ⟨rfl,ai HG.out hg⟩)
    have Ge:=hid (show cQ l=.ok ({ items:=items,only:=only,aN:=aN,aP:=aP,group:=group,having:=having,order:=order,aQ:=[k] },Nx)from YJ.out.trans ((ag (HW.out.trans ((ag ay).trans rfl))).trans rfl));have hq:=xC.out.blk.lt;have hs:=d.size;have hb:=aa Fs (.cells #[.int .i64 k] 2);have hN:=Vc (S:=ep (w.heap.size+3) (Fs.alloc (.cells #[.int .i64 k] 2))) (av.new Fs 2 #[.int .i64 k]) ⟨by omega,by simp⟩;have hX:=(d.later hb).blk xC.out.blk Taa;have hc:(Fs.alloc (.cells #[.int .i64 k] 2)).cell? ⟨w.heap.size+1+1,7,none⟩=_:=hX.cell 7;have hf:(Fs.alloc (.cells #[.int .i64 k] 2)).frozen? ⟨w.heap.size+1+1,7,none⟩=_:=hX.frozen 7;have YL:=hid (xC.out.set (m':= { items:=sl,only:=only,aN:=aN,aP:=sw,group:=sg,having:=sh,order:=so,aQ:=⟨some ⟨Fs.heap.size,0,none⟩,1,1⟩}) (d':= { items:=items,only:=only,aN:=aN,aP:=aP,group:=group,having:=having,order:=order,aQ:=[k] }) aZ (d.later hb) 7 (.slice (some ⟨Fs.heap.size,0,none⟩) 1 1) rfl rfl rfl (λ hat=> { hat with aQ:=hN }));clear hp ay hX d hb hN xC YJ HW;go_upto_region 18 with fail
    clear hc hf;generalize (World.setCell _ _ _)=W15 at*;generalize (some (Addr.mk Fs.heap.size 0 none))=AX at*;go_wp2_with (first
     |(refine wpList_load_row rfl 28 (.tmp 3) rfl (w.heap.size+1+1) rfl 28 _ (0,0) _ YL.out.blk Tryz.underlying28 rfl tI ?_)
     |(refine wpList_store_row rfl 28 (.tmp 2) (.tmp 50) rfl (w.heap.size+1) (jE { items:=sl,only:=only,aN:=aN,aP:=sw,group:=sg,having:=sh,order:=so,aQ:=⟨AX,1,1⟩}).toArray rfl rfl 28 qu0 YL.out.res tI rfl (UY _) ?_
       have HR:=hid (YL.out.res.row (jE { items:=sl,only:=only,aN:=aN,aP:=sw,group:=sg,having:=sh,order:=so,aQ:=⟨AX,1,1⟩}).toArray)))
    exact bodyPost_ret (v:=GJ { items:=sl,only:=only,aN:=aN,aP:=sw,group:=sg,having:=sh,order:=so,aQ:=⟨AX,1,1⟩}) (results_cell_row Tryz.results113 _ _ (w.heap.size+1) 28 (jE { items:=sl,only:=only,aN:=aN,aP:=sw,group:=sg,having:=sh,order:=so,aQ:=⟨AX,1,1⟩}).toArray (0,0) _ rfl HR.out Tryz.underlying28 rfl tI) rfl (YL.out.post aZ Ge.out)):p:=h
theorem zhw.Kcs(h:p:=by
 have b1:=aa w (.cells #[ρ.ptr] 77);have b3:=af.then (af.then b1 (aa _ CB)) (aa _ CB)
 have hP:=((av.new w 77 #[ρ.ptr]).alloc CB).alloc CB;have hR:=(av.new (w.alloc (.cells #[ρ.ptr] 77)) 28 qu0).alloc CB;have hQ:=av.new ((w.alloc (.cells #[ρ.ptr] 77)).alloc CB) 28 (jE {}).toArray;rw[World.size_alloc] at hR;rw[World.size_alloc,World.size_alloc] at hQ;have HA:=hid (show GQ ρ w lg dp (((w.alloc (.cells #[ρ.ptr] 77)).alloc CB).alloc CB) l {} {} from
  ⟨by simpa [Qu.long,Qu.exprs,cR] using aU.aA h b3,hQ,hR,hP,Qu.iR _ _⟩)
 have HE:=hid (show cQ l=(must cA >>= λ _=>afA) l from rfl);clear h b1 b3 hP hR hQ;go_enter Tryz.func113,Tryz.ntmps113;go_upto_region 2 with fail;change Code.wp _ _ _ _ (((w.alloc (.cells #[ρ.ptr] 77)).alloc CB).alloc CB);generalize hW:(World.alloc _ _)=W0 at*;clear hW;have hb:=aa W0 (.cells (aK [cA]) 9);have HB:=hid (HA.out.later hb);have hq:=HA.out.blk.lt;have p0:=HA.out.ptr;have hm:=aR ρ _ l _ _ HB.out.did.at_ [cA] W0.heap.size 1 rfl (av.new W0 _ _) Taa Taa;clear hb HA;unfold aK strOf at hm HB;simp only[map_cons,map_nil] at hm HB;rw[show cA.toArray= #[115,101,108,101,99,116] from rfl] at hm HB;go_wp2_with fail;refine hm.mono ?_;clear hm p0;intro e w1 hp
 rcases hp.cases with ⟨_,l1,v9,ay,rfl,rfl,d⟩|⟨m,au,rfl,hg⟩;case inr=>
  have CC:must cA l=.error m:=by rw[<- ax];exact au
  have HF:=hid (show cQ l=.error m from HE.out.trans (ak CC));have HG:=hid HB.out.did.grown;clear hp au CC;go_wp2_with fail;exact aj rfl (GP.err HF.out ⟨rfl,ai HG.out hg⟩)
 have jx:must cA l=.ok ((),l1):=by rw[<- ax];exact ay
 have uy:=hid (show cQ l=afA l1 from HE.out.trans (ag jx));have oV:=hid (HB.out.go aZ d);clear hp ay jx d HB hq;have p0:=oV.out.ptr;have hm:=bk ρ w1 l1 _ _ oV.out.did.at_ ⟨#[42]⟩;rw[show(⟨#[42]⟩:ByteArray).data.toList=eK from rfl] at hm;go_upto_if 9 with fail;refine hm.mono ?_;clear hm p0;rintro e w2 ⟨rfl,d⟩;have fV:=hid (oV.out.go aZ d);clear d oV HE;go_upto_if 9 with fail;go_cut [] (λ wx=>∃(items:List (Tr×ByteArray)) (sl:Sl) (l':aF),cQ l=aan items l'/\GQ ρ w lg dp wx l' { items:=sl } { items:=items })
 case first=>
  cases hst:ar eK l1
  ·rw[bS hst] at fV;have HY:=hid (YG hst);clear hst;have p0:=fV.out.ptr;have hq:=fV.out.blk.lt;have F:=FU (ρ:=ρ) (w:=w) (m:= {}) (d:= {}) aZ 0 Tac
   have L:Lst ρ w (λ x=>decide (32 < x.1.depth)) nz 150 #[.pointer (some ⟨w.heap.size,0,none⟩),.pointer (some ⟨w.heap.size+1+1,0,none⟩)] ((Rf ρ w {} {} 0).acc iP 51):=
    ⟨kZ,enters_of Tryz.func150 Tab rfl,λ acc a b hs hg _=>by obtain⟨v,h⟩:=hs;exact⟨v,h.grown F hg⟩,λ acc W l lg dp hn hs hd=>LS (Rf ρ w {} {} 0) F rfl rfl acc W l lg dp hn hs hd⟩
   have hm:=nj ρ w (λ x=>decide (32 < x.1.depth)) nz 150 #[.pointer (some ⟨w.heap.size,0,none⟩),.pointer (some ⟨w.heap.size+1+1,0,none⟩)] _ L w2 l1 _ _ fV.out.did (fV.out.start iP 51 0 rfl) aZ;clear L F;go_wp2_with fail;refine hm.mono ?_;clear hm p0;intro e w3 hp;unfold ij at hp
   cases hx:dC nz l1 with
   | error m=>rw[hx] at hp;obtain⟨rfl,hg⟩:=hp;have HF:=hid (show cQ l=.error m from uy.out.trans (ak (HY.out.trans hx)));exact Zcb
   | ok z=>obtain⟨xs,l3⟩:=z;rw[hx] at hp;obtain⟨rfl,hs,hd⟩:=hp;obtain⟨so,hA⟩:=GQ.list (lg:=lg) (dp:=dp) (m':=λ so=> { items:=so }) (d':= { items:=xs }) hs hd (λ _=>rfl) Tax Tak (λ so ja hat=> { hat with items:=ja });have HAX:=hid hA;have Ge:=hid (uy.out.trans (ag (HY.out.trans hx)));clear hx hA hs hd fV;go_wp2_with fail;go_meet;exact⟨xs,so,l3,Ge.out,HAX.out⟩
  ·rw[cg hst] at fV;have Ge:=hid (show cQ l=aan [] l1.tail from uy.out.trans (ag (YF hst)));clear hst;go_wp2_with fail;go_meet;exact⟨[],Sl.nil,_,Ge.out,fV.out⟩
 case rest=>obtain⟨items,sl,l3,hE,hA⟩:=hcut;have tq:=hid hE;have mf:=hid hA;clear hE hA fV uy;have hb:=aa wc (.cells (aK [bZ]) 9);have HB:=hid (mf.out.later hb);have hq:=mf.out.blk.lt;have p0:=mf.out.ptr;have hm:=aR ρ _ l3 _ _ HB.out.did.at_ [bZ] wc.heap.size 1 rfl (av.new wc _ _) Taa Taa;clear hb mf;open zij in exact Zhc):p:=h
theorem Bv (ρ:bj)(w:World)(l:aF)(lg dp:Bool)(h:ρ.fy w l lg dp):
  Calls Tryz.prog 113 #[ρ.ptr] w (UZ ρ w lg dp l):=by have aZ:=h.mE;open zhw in exact Zga
def Me (w:World)(b:Nat)(m:kM):World:=(((((((w.setCell ⟨b,7,none⟩ (eU m.items)).setCell ⟨b,8,none⟩ (.string m.aN)).setCell ⟨b,9,none⟩ (.bool m.only)).setCell ⟨b,10,none⟩ (eU m.aP)).setCell ⟨b,11,none⟩ (eU m.group)).setCell ⟨b,12,none⟩ (eU m.having)).setCell ⟨b,13,none⟩ (eU m.order)).setCell ⟨b,14,none⟩ (eU m.aQ)
def Vk (cs:Array Value)(m:kM):Array Value:=(((((((cs.setIfInBounds 7 (eU m.items)).setIfInBounds 8 (.string m.aN)).setIfInBounds 9 (.bool m.only)).setIfInBounds 10 (eU m.aP)).setIfInBounds 11 (eU m.group)).setIfInBounds 12 (eU m.having)).setIfInBounds 13 (eU m.order)).setIfInBounds 14 (eU m.aQ)
section
variable {ρ:bj} {w wr w2:World} {q b:Nat} {wB:List Nat} {lg dp lg2 dp2:Bool} {l l2:aF} {m:fX} {d:St}
theorem tT.query {m':fX} {d':St} {qy:kM}(A:tT ρ w q wB lg dp b wr l m d)(hg:ρ.g < w.heap.size)(D:aU ρ wr w2 l2 lg2 dp2)(hb:(bI m').toArray=Vk (bI m).toArray qy)(hl:lg2=(lg || d'.long))(hd:dp2=(dp || cR d'.exprs))(hat:d.at_ w2 (ep (b+1) w2) m->St.at_ w2 (ep (b+1) w2) d' m'):tT ρ w q wB lg dp b (Me w2 b qy) l2 m' d':=by
 have hq:=A.qb;have hw:=A.sa.qw;have S:=A.sa.go hg D;have hB:=D.blk A.blk Taa;have hS:=hat (St.at_.keep (eF D.grown Taa) A.at_);have s:=λ(w:World) (h:St.at_ w (ep (b+1) w) d' m') (i:Nat) (u:Value)=>St.at_.keep (ot (w:=w) (Nat.lt_succ_self b) i u) h
 have t:=λ(W:World) (h:yL ρ w q wB lg2 dp2 W l2) (i:Nat) (u:Value)=>(⟨h.did.far (q:=b) hg Taa i u,h.res.far (p:=⟨b,i,none⟩) Tad u,h.qw,λ p hp=>by
  obtain⟨a,c,k⟩:=h.tF p hp
  have:=A.pb p hp
  exact⟨a,c,k.far (p:=⟨b,i,none⟩) Tad u⟩⟩:yL ρ w q wB lg2 dp2 (W.setCell ⟨b,i,none⟩ u) l2)
 refine⟨?_,?_,?_,A.qb,A.pb⟩
 ·rw[<- hl,<- hd];exact t _ (t _ (t _ (t _ (t _ (t _ (t _ (t _ S 7 _) 8 _) 9 _) 10 _) 11 _) 12 _) 13 _) 14 _
 ·rw[hb];exact(((((((hB.cr 7 _).cr 8 _).cr 9 _).cr 10 _).cr 11 _).cr 12 _).cr 13 _).cr 14 _
 ·exact s _ (s _ (s _ (s _ (s _ (s _ (s _ (s _ hS 7 _) 8 _) 9 _) 10 _) 11 _) 12 _) 13 _) 14 _
end
variable{P:Program}{id:Nat}{o:Oper}{Q:Exit->Act->List Frame->World->Prop}{a:Act}{v:Value}{cs':List Frame}
theorem sK{l:List Oper}   {cs:List Frame} (hw:Region.wanted o (yielded (o::l).toArray a.tmps)=true)(hr:(execOp a.eval o).run P w=.ok .recover w)  
  (hc:recoverD cs=some (v,cs')\/recoverD cs=none/\v=.nilIface/\cs'=cs) (h:wpList P (o::l).toArray (λ e a w=>Q e a cs' w) l (a.put o.dst v) w):(Code.region id (o::l).toArray false).wpS P Q a cs w:=by
 intro b k hb hro;obtain⟨e,a',w',q,akb⟩:=wp_ops (ops:=(o::l).toArray) (List.range' 1 l.length) _ w (by rw[wpOps_eq_wpList l 1 (λ j=>by simp[Nat.add_comm])];exact h) b k cs';refine⟨e,a',cs',w',q,.of_steps (.one step_region) ?_⟩;have e0:List.range (o::l).toArray.size=0::List.range' 1 l.length:=by rw[range_eq_range'];simp[range'_succ]
 rw[e0];have ho:(o::l).toArray[0]?=some o:=by simp
 have hg:=stepG_op (P:=P) (b:=b) (k:=k) (cs:=cs) (w:=w) (rest:=List.range' 1 l.length) ho hw;have rZ:∀v,(b.at a (.inRegion (o::l).toArray (0::List.range' 1 l.length)::k)).finish v=b.at (a.put o.dst v) (.inRegion (o::l).toArray (List.range' 1 l.length)::k):=by intro v;rw[Frame.finish_at,ho];rfl
 have htr:=tryRecover_deferred (fr:=b.at a (.inRegion (o::l).toArray (0::List.range' 1 l.length)::k)) hb cs;refine .of_steps (.one (step_lone_go ?_)) akb;rw[hg,<- rZ];simp only[Frame.at] at htr ⊢;rcases hc with hc |⟨hc,rfl,rfl⟩<;> simp[stepG.apply,hr,htr,hc]
theorem Bw:Tryz.prog.built 34 []=some cF:=by kernel_rfl
def qI (b0 b1 b2:Nat):Array Value:= #[.pointer (some ⟨b0,0,none⟩),.pointer (some ⟨b1,0,none⟩),.pointer (some ⟨b2,0,none⟩)]
theorem zfh.Kbu(h:p:=by
 refine sK (v:=.nilIface) (cs':=YN::cs) TaQ rfl (.inr ⟨by simp[recoverD,hu],rfl,rfl⟩) ?_;have hta:∀w,(Instr.typeAssert .nilIface 20 75 true).run Tryz.prog w=.ok (.tuple #[.agg #[.int .i64 0],.bool false]) w:=λ _=>rfl
 have hb:=aa w (.cells #[.int .i64 0] 75);go_wp2_with fail;change Code.wpS _ _ _ _ _ _;refine wpS_of_wp ?_;go_wp2_with fail;simp only[bodyPostS];refine⟨trivial,YN.mode,rfl,.tuple #[],?_,rfl,hu,?_⟩
 ·simp[results,Tryz.results26]
 ·exact hb):p:=h
theorem Jf (b0 b1 b2:Nat)(w:World):CallsD Tryz.prog 26 (qI b0 b1 b2) .returning w λ e u' w'=>e=.returned (.tuple #[])/\u'=.returning/\Below w.heap.size w w':=by
 open zfh in exact ZcY
def Qx (p:Int):Value:=.iface 75 (.agg #[.int .i64 p])
theorem zey.Kbc(h:p:=by
 rw[<- hz0];clear hz0;go_upto_region 2 with fail;change Code.wp _ _ _ _ (w.alloc (.cells #[.int .i64 p] 75));generalize w.alloc _=W at*;generalize w.heap.size=g at*;refine gZ [_,_] [_,_,_,_] rfl (λ i=>if i=0 then .agg z0 else if i=1 then .pointer (some ⟨g,0,none⟩)else .int .i64 p) [3] (λ vs w'=>av w' b0 34 (if vs=[] then cs0 else z0)/\av w' b1 3 #[x]/\av w' b2 40 #[y]/\av w' g 75 #[.int .i64 p]/\Below N w w') (λ vs w' ⟨a,b,c,d,e⟩=>⟨a.drew,b.drew,c.drew,d.drew,e.drew⟩) ⟨HB0,mn,px,HF,qZ⟩ Tab Tab Tab Tab Tac rfl ?_ ?_
 ·refine⟨ZdQ,?_,?_,?_,trivial⟩
  ·intro ρ w' vs hcs hG hr;have r0:ρ (.tmp 3)=.pointer (some ⟨g,0,none⟩):=hr.1;refine⟨rfl,?_⟩;simp[execOp,r0,go_sem]
  ·intro ρ w' vs hcs hG hr;have r0:ρ (.tmp 12)=.pointer (some ⟨g,0,none⟩):=hr.1;refine⟨rfl,?_⟩;have hc:=hG.2.2.2.1.cell 0;simp only[getElem?_toArray,getElem?_cons_zero] at hc;simp[execOp,r0,go_sem,hc]
  ·intro ρ w' vs hcs hG hr;have r0:ρ (.tmp 0)=.pointer (some ⟨b0,0,none⟩):=hr.1;have r1:ρ (.tmp 11)=.agg z0:=hr.2.1;refine⟨rfl,?_⟩;show vs.length=0->_;intro hl;obtain rfl:=eq_nil_of_length_eq_zero hl;obtain⟨a,b,c,d,e⟩:=hG;refine rE (w':=w'.setRow b0 z0) ?_ ?_
   ·unfold execOp;simp only[r0,r1,Instr.storeAt,Instr.sureAddr,Sem.run_bind,Sem.run_pure,Result.andThen_ok,run_storeVar_row w' b0 34 34 cs0 z0 a TaY (by rw[hs0,BV.out]) HZ1.out]
   ·exact⟨a.row z0,b.gu n1.symm z0,c.gu n2.symm z0,d.gu Taa z0,e.trans (aJ (cx w' b0 z0) (by have:=a.lt;omega) h0)⟩
 ·intro vs w' hl hG
  match vs,hl with
  | [v],_=>
    obtain⟨a,b,c,d,e⟩:=hG;intro a0 YO a1 z1 a2 z2;have YO:a0=.agg z0:=YO;have z1:a1=.pointer (some ⟨g,0,none⟩):=z1;have z2:a2=.int .i64 p:=z2;subst YO z1 z2;have e1:=b.cell 0;have e2:=c.cell 0;simp only[getElem?_toArray,getElem?_cons_zero] at e1 e2;have f1:=b.frozen 0;have f2:=c.frozen 0;change wpList _ _ _ _ _ _;clear YO z1 z2;go_wp2_with fail;have s0:=a.lt;have hs1:(w'.setCell ⟨b1,0,none⟩ (.int .i64 p)).heap.size=w'.heap.size:=by simp[World.setCell]
    have g1:w'.grownBy (w'.setCell ⟨b1,0,none⟩ (.int .i64 p)) (some b1):=bn (az (Below.refl _ _)) 0 _;have g2:(w'.setCell ⟨b1,0,none⟩ (.int .i64 p)).grownBy ((w'.setCell ⟨b1,0,none⟩ (.int .i64 p)).setCell ⟨b2,0,none⟩ (.int .i64 31)) (some b2):=bn (az (Below.refl _ _)) 0 _;refine⟨rfl,_,rfl,.tuple #[],?_,rfl,rfl,?_,?_,?_,?_⟩
    ·simp[results,Tryz.results26]
    ·exact(av.far a (p:=⟨b1,0,none⟩) n1 _).far (p:=⟨b2,0,none⟩) n2 _
    ·exact(b.cr 0 (.int .i64 p)).far (p:=⟨b2,0,none⟩) n3 _
    ·exact(c.far (p:=⟨b1,0,none⟩) n3.symm _).cr 0 (.int .i64 31)
    ·exact(e.trans (aJ g1 Taa h1)).trans (aJ g2 Taa h2)):p:=h
theorem zfi.Kbu(h:p:=by
 refine sK (v:=Qx p) (cs':= { YN with mode:=.panicking ({ v:=Qx p,recovered:=true }::Vf)}::cs) TaQ rfl (.inl (by simp[recoverD,hu])) ?_;have hta:∀w,(Instr.typeAssert (Qx p) 20 75 true).run Tryz.prog w=.ok (.tuple #[.agg #[.int .i64 p],.bool true]) w:=λ _=>rfl
 go_wp2_with fail;change Code.wpS _ _ _ _ _ _;refine wpS_of_wp ?_;have hN:N<=w.heap.size:=by have:=hb0.lt;omega
 have qZ:=(aa w (.cells #[.int .i64 p] 75)).mono hN;have HF:=av.new w 75 #[.int .i64 p];have HB0:=hb0.alloc (.cells #[.int .i64 p] 75);have mn:=hb1.alloc (.cells #[.int .i64 p] 75);have px:=hb2.alloc (.cells #[.int .i64 p] 75);have q0:=hb0.lt;have q1:=hb1.lt;have q2:=hb2.lt;clear hb0 hb1 hb2 hta;open zey in exact Zca):p:=h
theorem FV (p:Int)(N b0 b1 b2:Nat)(h0:N<=b0)(h1:N<=b1)(h2:N<=b2)(n1:b0≠b1)(n2:b0≠b2)(n3:b1≠b2)(w:World)(cs0:Array Value)(hs0:cs0.size=28)(hb0:av w b0 34 cs0)(x y:Value)(hb1:av w b1 3 #[x])(hb2:av w b2 40 #[y])(Vf:List PanicEntry):
  CallsD Tryz.prog 26 (qI b0 b1 b2) (.panicking ({ v:=Qx p,recovered:=false }::Vf)) w λ e u' w'=>e=.returned (.tuple #[])/\u'=.panicking ({ v:=Qx p,recovered:=true }::Vf)/\av w' b0 34 cF/\av w' b1 3 #[.int .i64 p]/\av w' b2 40 #[.int .i64 31]/\Below N w w':=by
 open zfi in exact ZcY
structure mS (w:World) (b:Nat) (cs:Array Value) (x y:Value):Prop where
 st:av w b 34 cs
 at_:av w (b+1) 3 #[x]
 er:av w (b+2) 40 #[y]
variable{w':World}{b:Nat}{cs:Array Value}{x y:Value}
theorem mS.later(h:mS w b cs x y)(hb:Below w.heap.size w w'):mS w' b cs x y:=⟨h.st.later hb,h.at_.later hb,h.er.later hb⟩
variable{g:Nat}
theorem mS.grown(h:mS w b cs x y)(hb:w.grownBy w' (some g))(hg:b+2 < g):mS w' b cs x y:=
 ⟨h.st.grown hb (λ e=>by injection e with e;omega),h.at_.grown hb (λ e=>by injection e with e;omega),h.er.grown hb (λ e=>by injection e with e;omega)⟩
theorem mS.lt(h:mS w b cs x y):b+2 < w.heap.size:=h.er.lt
theorem qK (w:World)(b:Nat)(cs:Array Value)(x y:Value)(h:mS w b cs x y)(hs:cs.size=28)(tmps:Array Value)(h2:tmps.getD 2 undef=.pointer (some ⟨b,0,none⟩))(h3:tmps.getD 3 undef=.pointer (some ⟨b+1,0,none⟩))(h4:tmps.getD 4 undef=.pointer (some ⟨b+2,0,none⟩)):
  (results Tryz.f14 tmps).run Tryz.prog w=.ok (.tuple #[.agg cs,x,y]) w:=by
 have mV:tmps[2]?.getD undef=.pointer (some ⟨b,0,none⟩):=by simpa using h2
 have L1:tmps[3]?.getD undef=.pointer (some ⟨b+1,0,none⟩):=by simpa using h3
 have h4':tmps[4]?.getD undef=.pointer (some ⟨b+2,0,none⟩):=by simpa using h4
 have e1:=h.at_.cell 0;have e2:=h.er.cell 0;simp only[getElem?_toArray,getElem?_cons_zero] at e1 e2;have l0:=run_loadVar_row (P:=Tryz.prog) w b 34 34 cs (0,0) _ h.st Tryz.underlying34 rfl (by rw[hs];exact bT);have l1:(loadVar 3 ⟨b+1,0,none⟩).run Tryz.prog w=.ok x w:=by simp[go_sem,e1]
 have l2:(loadVar 40 ⟨b+2,0,none⟩).run Tryz.prog w=.ok y w:=by simp[go_sem,e2]
 simp[results,Tryz.results14,mV,L1,h4',asAddr,Sem.run_bind,l0,l1,l2,Result.andThen]
def VG (b:Nat):Deferred:= { target:=.fn (.func 26) (qI b (b+1) (b+2)),args:= #[] }
variable{R:Ending->World->Prop}{N:Nat}{cs0 tmps:Array Value}
theorem BG(h:mS w b cs0 x y)(hs:cs0.size=28)(hN:N<=b)(p:Int) (h2:tmps.getD 2 undef=.pointer (some ⟨b,0,none⟩))(h3:tmps.getD 3 undef=.pointer (some ⟨b+1,0,none⟩))(h4:tmps.getD 4 undef=.pointer (some ⟨b+2,0,none⟩))
  (hR:∀w',Below N w w'->R (.returned (.tuple #[.agg cF,.int .i64 p,.int .i64 31])) w'):
  bodyPostD Tryz.prog Tryz.f14 R (.panic [{ v:=Qx p,recovered:=false }]) { tmps:=tmps,defers:=[VG b] } w:=by refine leaves_cons (f:=26) (args:=qI b (b+1) (b+2)) Tae (by unfold qI;simp[go_sem]) ?_;refine(FV p N b (b+1) (b+2) hN Taa Taa Taa Taa Taa w cs0 hs h.st x y h.at_ h.er []).mono ?_;rintro e u' w' ⟨rfl,rfl,B0,B1,B2,hb⟩;show Leaves _ _ _ _ [] .returning w';exact⟨_,qK w' b cF _ _ ⟨B0,B1,B2⟩ rfl tmps h2 h3 h4,hR w' hb⟩
theorem xD(h:mS w b cs x y)(hs:cs.size=28) (h2:tmps.getD 2 undef=.pointer (some ⟨b,0,none⟩))(h3:tmps.getD 3 undef=.pointer (some ⟨b+1,0,none⟩))(h4:tmps.getD 4 undef=.pointer (some ⟨b+2,0,none⟩))
  (hR:∀w',Below w.heap.size w w'->R (.returned (.tuple #[.agg cs,x,y])) w'):
  bodyPostD Tryz.prog Tryz.f14 R .ret { tmps:=tmps,defers:=[VG b] } w:=by refine leaves_cons (f:=26) (args:=qI b (b+1) (b+2)) Tae (by unfold qI;simp[go_sem]) ?_;refine(Jf b (b+1) (b+2) w).mono ?_;rintro e u' w' ⟨rfl,rfl,hb⟩;show Leaves _ _ _ _ [] .returning w';exact⟨_,qK w' b cs _ _ (h.later hb) hs tmps h2 h3 h4,hR w' hb⟩
theorem Mg(h:mS w b cs x y)(hs:cs.size=28) (h2:tmps.getD 2 undef=.pointer (some ⟨b,0,none⟩))(h3:tmps.getD 3 undef=.pointer (some ⟨b+1,0,none⟩))(h4:tmps.getD 4 undef=.pointer (some ⟨b+2,0,none⟩))
  (hR:R (.returned (.tuple #[.agg cs,x,y])) w):
  bodyPostD Tryz.prog Tryz.f14 R .ret { tmps:=tmps,defers:=[] } w:=
 ⟨_,qK w b cs _ _ h hs tmps h2 h3 h4,hR⟩
variable{gl c B:Nat}
theorem bj.aaC{l:List mA}(uK:gl < w.heap.size)(hc:∀k t,l[k]?=some t->w.cell? ⟨gl,k*4,none⟩=some (.int .u8 t.w.k)/\w.cell? ⟨gl,k*4+1,none⟩=some (.string ⟨t.w.s.toArray⟩)/\w.cell? ⟨gl,k*4+2,none⟩=some (.int .i64 t.w.n)/\w.cell? ⟨gl,k*4+3,none⟩=some (.int .i64 t.p))
  (he:iG (l.map (·.w))) (hlen:l.length<=4097) (hwd:∀t∈l,Ul t.w) (hE:Env B w):
  (⟨w.heap.size,gl,c,l⟩:bj).fy (w.alloc (.cells #[.slice (some ⟨gl,0,none⟩) l.length c,.int .i64 0,.bool false,.bool false] 79)) (l.map (·.w)) false false:=by
 have hb:=av.new w 79 #[.slice (some ⟨gl,0,none⟩) l.length c,.int .i64 0,.bool false,.bool false];refine⟨?_,uK,?_,⟨suffix_refl _,he⟩,?_,λ t ht=>(hwd t ht).1,B,hE.size,hE.later (aa w _)⟩
 ·have e:(⟨w.heap.size,gl,c,l⟩:bj).uL (l.map (·.w)) false false= #[.slice (some ⟨gl,0,none⟩) l.length c,.int .i64 0,.bool false,.bool false]:=by simp[bj.uL,bj.n]
  rw[e];exact hb
 ·intro k t hk;have c:=λ o=>World.cell?_alloc_lt w (.cells #[.slice (some ⟨gl,0,none⟩) l.length c,.int .i64 0,.bool false,.bool false] 79) ⟨gl,o,none⟩ uK
  obtain⟨h1,h2,h3,h4⟩:=hc k t hk;exact Zc6
 ·show l.length<=5000;omega
theorem bj.fy.aaD(h:ρ.fy w l lg dp)(cs:Array Value)(h1:ρ.g≠b)(h2:ρ.gl≠b)(hE:∃B,B<=ρ.g/\Env B (w.setRow b cs)):ρ.fy (w.setRow b cs) l lg dp:=
 ⟨h.blk.gu h1 cs,h.lt,λ k t hk=>by
   have c:=cell_of_heap (setRow_other w b ρ.gl cs h2)
   obtain⟨h1,h2,h3,h4⟩:=h.cell k t hk
   exact⟨(c _).trans h1,(c _).trans h2,(c _).trans h3,(c _).trans h4⟩,h.of,h.small,h.yE,hE⟩
variable{s:ByteArray}
theorem YY{l:List mA}(h:kP s.data.toList=.ok l) (hE:kg w)(hs:s.size<=4294967280):
  Calls Tryz.prog 25 #[.string s] w λ e w'=>∃A c,e=.returned (.tuple #[.slice A l.length c,.int .i64 0,.int .i64 0])/\Az w' w.heap.size (.slice A l.length c) l/\Below w.heap.size w w':=by refine(MM s w hE hs).mono ?_;exact Zex
theorem VH{p x:Nat}(h:kP s.data.toList=.error (p,x)) (hE:kg w)(hs:s.size<=4294967280):
  Calls Tryz.prog 25 #[.string s] w λ e w'=>e=.returned (.tuple #[.slice none 0 0,.int .i64 p,.int .i64 x])/\Below w.heap.size w w':=by refine(MM s w hE hs).mono ?_;intro e w' hp;unfold kz at hp;rw[h] at hp;exact hp
end Go.Proofs.YtehhdlgjfdnafaaGreatDoor
