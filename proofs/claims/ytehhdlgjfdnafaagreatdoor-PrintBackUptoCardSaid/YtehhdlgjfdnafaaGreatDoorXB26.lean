/- Parts of the proof. -/
import Derived.Test.YtehhdlgjfdnafaaGreatDoorXB24
namespace Go.Proofs.YtehhdlgjfdnafaaGreatDoor
variable{p:Prop}
set_option maxHeartbeats 90000000
set_option maxRecDepth 100000
open Go.Lib (hid)
open Go.ChangeShapes Go.WideShapes Go.ChangeAt Go.RowKit List
set_option linter.unusedVariables false
set_option linter.unusedSimpArgs false
def qu0:Array Value:=(jX {}).toArray
theorem uV:(Tryz.prog.info? 28).map (·.size)=some 8:=by exact Zhj
theorem Zq (m:lB):(jX m).toArray.all (·.oneCell')=true:=by simp[jX,fF,Value.oneCell']
structure GQ (ρ:bp) (w:World) (lg dp:Bool) (wr:World) (l:aI) (m:lB) (d:Qu):Prop where
 did:aY ρ w wr l (lg || d.long) (dp || cZ d.exprs)
 blk:av wr (w.heap.size+1+1) 28 (jX m).toArray
 res:av wr (w.heap.size+1) 28 qu0
 uS:av wr w.heap.size 77 #[ρ.ptr]
 at_:d.at_ wr (eC (w.heap.size+3) wr) m
section
variable {ρ:bp} {w wr w2:World} {lg dp:Bool} {l l2:aI} {m:lB} {d:Qu}
theorem GQ.later (A:GQ ρ w lg dp wr l m d)(hb:Below wr.heap.size wr w2):GQ ρ w lg dp w2 l m d:=⟨A.did.later hb,A.blk.later hb,A.res.later hb,A.uS.later hb,Qu.at_.keep (gh hb) A.at_⟩
theorem GQ.go (A:GQ ρ w lg dp wr l m d)(hg:ρ.g < w.heap.size)(D:aY ρ wr w2 l2 (lg || d.long) (dp || cZ d.exprs)):GQ ρ w lg dp w2 l2 m d:=
 ⟨A.did.trans D,D.blk A.blk Taa,D.blk A.res Taa,D.blk A.uS Taa,Qu.at_.keep (eU D.grown Taa) A.at_⟩
theorem GQ.set {lg2 dp2:Bool} {m':lB} {d':Qu}(A:GQ ρ w lg dp wr l m d)(hg:ρ.g < w.heap.size)(D:aY ρ wr w2 l2 lg2 dp2)(i:Nat)(u:Value)(hb:(jX m').toArray=(jX m).toArray.setIfInBounds i u)(hl:lg2=(lg || d'.long))(hd:dp2=(dp || cZ d'.exprs))(hat:d.at_ w2 (eC (w.heap.size+3) w2) m->Qu.at_ w2 (eC (w.heap.size+3) w2) d' m'):GQ ρ w lg dp (w2.setCell ⟨w.heap.size+1+1,i,none⟩ u) l2 m' d':=by
 refine⟨?_,?_,(D.blk A.res Taa).far (p:=⟨w.heap.size+1+1,i,none⟩) Tae u,(D.blk A.uS Taa).far (p:=⟨w.heap.size+1+1,i,none⟩) Tad u,Qu.at_.keep (pc (Nat.lt_succ_self _) i u) (hat (Qu.at_.keep (eU D.grown Taa) A.at_))⟩
 ·rw[<- hl,<- hd];exact(A.did.trans D).far hg Taa i u
 ·rw[hb];exact(D.blk A.blk Taa).cC i u
theorem GQ.ptr (A:GQ ρ w lg dp wr l m d):wr.cell? ⟨w.heap.size,0,none⟩=some ρ.ptr:=A.uS.cell 0
def Wk (ρ:bp)(w:World)(m:lB)(d:Qu)(k:Nat):vp:=⟨ρ,w,28,w.heap.size+1+1,k,w.heap.size,w.heap.size+3,(jX m).toArray,[(w.heap.size+1,28,qu0)],λ W S=>d.at_ W S m⟩
theorem Jd (hg:ρ.g < w.heap.size)(k:Nat)(hk:k < 8):(Wk ρ w m d k).Fit:=
 ⟨hg,by show w.heap.size<=w.heap.size+1+1;omega,hg,by show w.heap.size≠w.heap.size+1+1;omega,Nat.lt_succ_self _,by show w.heap.size < w.heap.size+3;omega,λ x hx=>by simp[Wk] at hx;subst hx;exact⟨Nat.le_succ _,by show w.heap.size+1≠w.heap.size+1+1;omega,by show w.heap.size+1 < w.heap.size+3;omega⟩,by show k < 8;exact hk,λ w w' S S' h hk=>Qu.at_.keep hk h⟩
theorem GQ.start (A:GQ ρ w lg dp wr l m d) {α:Type}(E:El α)(T:TypeId)(k:Nat)(hk:(jX m).toArray.setIfInBounds k (.slice none 0 0)=(jX m).toArray):(Wk ρ w m d k).acc E T [] wr:=
 ⟨.slice none 0 0,by show av wr _ _ ((jX m).toArray.setIfInBounds k _);rw[hk];exact A.blk,jw.nil E T wr _,Qu.at_.keep (λ b hb=>⟨λ _=>rfl,hb.1,hb.2,by simp[Value.ownBlock]⟩) A.at_,by have:=A.blk.lt;show w.heap.size+3<=_;omega,A.uS,λ x hx=>by simp[Wk] at hx;subst hx;exact A.res⟩
theorem GQ.list {α:Type} {E:El α} {T:TypeId} {k:Nat} {xs:List α} {m':Sl->lB} {d':Qu} {lg2 dp2:Bool}(hs:(Wk ρ w m d k).acc E T xs w2)(D:aY ρ w w2 l2 lg2 dp2)(hm:∀sl,(jX (m' sl)).toArray=(jX m).toArray.setIfInBounds k (fF sl))(hl:lg2=(lg || d'.long))(hd:dp2=(dp || cZ d'.exprs))(hat:∀sl,E.sl w2 (eC (w.heap.size+3) w2) sl xs->d.at_ w2 (eC (w.heap.size+3) w2) m->d'.at_ w2 (eC (w.heap.size+3) w2) (m' sl)):∃sl,GQ ρ w lg dp w2 l2 (m' sl) d':=by
 obtain⟨v,A⟩:=hs;obtain⟨sl,hv,_,jk⟩:=A.row.sl (B':=w.heap.size+3) (Nat.le_refl _);refine⟨sl,?_,?_,A.Zj (w.heap.size+1,28,qu0) (by simp[Wk]),A.uS,hat sl jk (Qu.at_.keep (CW (Nat.le_refl _)) A.kp)⟩
 ·rw[<- hl,<- hd];exact D
 ·rw[hm,<- hv];exact A.blk
end
def Zr (ρ:bp)(w:World)(lg dp:Bool)(l:aI)(e:Ending)(w':World):Prop:=
 GP ρ w cY l (λ d r v w'=>∃m:lB,v=Hv m/\d.at_ w' (eC w.heap.size w') m/\aY ρ w w' r (lg || d.long) (dp || cZ d.exprs)) e w'
variable{ρ:bp}{w wr:World}{lg dp:Bool}{l l0:aI}{m:lB}{d:Qu}
theorem GQ.post(A:GQ ρ w lg dp wr l m d)(hg:ρ.g < w.heap.size)(hp:cY l0=.ok (d,l)):Zr ρ w lg dp l0 (.returned (Hv m)) (wr.setRow (w.heap.size+1) (jX m).toArray):=
 GP.ok hp ⟨m,rfl,Qu.at_.keep (gW Taa) (Qu.at_.keep (iI wr (show w.heap.size+1 < w.heap.size+3 by omega) _) A.at_),A.did.own hg (cH wr _ _) (λ G e=>by injection e with e;omega)⟩
theorem aav(h:ar fe l=true):sY l=.ok ([],l.tail):=by unfold sY;rw[bQ];simp only[h,if_true];rfl
theorem aaw(h:ar fe l=false):sY l=dI nZ l:=by unfold sY;exact Zgz
theorem Zs(h:ar iz l=false):ry l=.ok ([],l):=by unfold ry;exact Zgz
theorem Uz(h:ar iz l=true):ry l=(do must mO;dI eJ:Ps (List Tr)) l.tail:=by unfold ry;exact Zgw
theorem UA(h:ar iB l=false):nA l=.ok ([],l):=by unfold nA;exact Zgz
theorem Pv(h:ar iB l=true):nA l=(do must mO;dI lu:Ps (List (Tr×Bool))) l.tail:=by unfold nA;exact Zgw
theorem Zt(h:ar jd l=false):sZ l=.ok ([],l):=by unfold sZ;exact Zgz
theorem UB(h:ar jd l=true):sZ l=(do let n <- nh;return [n]:Ps (List Int)) l.tail:=by unfold sZ;exact Zgw
def cN:Array Value:=(bD {}).toArray
def gQ (m:fl):Obj:=.cells (bD m).toArray 34
theorem cm:(Tryz.prog.info? 34).map (·.size)=some 28:=by exact Zhj
theorem cS (m:fl):(bD m).toArray.all (·.oneCell')=true:=by simp[bD,jX,fF,fp,Value.oneCell']
def cI (ρ:bp)(w:World)(lg dp:Bool)(P:Ps St)(l:aI)(e:Ending)(w':World):Prop:=
 GP ρ w P l (λ d r v w'=>∃m:fl,v=ji m/\d.at_ w' (eC w.heap.size w') m/\aY ρ w w' r (lg || d.long) (dp || cZ d.exprs)) e w'
structure Ba (ρ:bp) (w:World) (q:Nat) (yL:List Nat) (lg dp:Bool) (wr:World) (l:aI):Prop where
 did:aY ρ w wr l lg dp
 res:av wr q 34 cN
 qw:w.heap.size<=q
 uS:∀p∈yL,w.heap.size<=p/\p≠q/\av wr p 77 #[ρ.ptr]
structure vy (ρ:bp) (w:World) (q:Nat) (yL:List Nat) (lg dp:Bool) (b:Nat) (wr:World) (l:aI) (m:fl) (d:St):Prop where
 sa:Ba ρ w q yL (lg || d.long) (dp || cZ d.exprs) wr l
 blk:av wr b 34 (bD m).toArray
 at_:d.at_ wr (eC (b+1) wr) m
 qb:q < b
 pb:∀p∈yL,p < b
section
variable {ρ:bp} {w wr w2:World} {q b:Nat} {yL:List Nat} {lg dp lg2 dp2:Bool} {l l2:aI} {m:fl} {d:St}
theorem Ba.later (A:Ba ρ w q yL lg dp wr l)(hb:Below wr.heap.size wr w2):Ba ρ w q yL lg dp w2 l:=
 ⟨A.did.later hb,A.res.later hb,A.qw,λ p hp=>by obtain⟨a,c,h⟩:=A.uS p hp;exact⟨a,c,h.later hb⟩⟩
theorem Ba.go (A:Ba ρ w q yL lg dp wr l)(hg:ρ.g < w.heap.size)(D:aY ρ wr w2 l2 lg2 dp2):Ba ρ w q yL lg2 dp2 w2 l2:=by have hq:=A.qw;exact⟨A.did.trans D,D.blk A.res Taa,A.qw,λ p hp=>by obtain⟨a,c,h⟩:=A.uS p hp;exact⟨a,c,D.blk h Taa⟩⟩
theorem Ba.ptr {p:Nat}(A:Ba ρ w q [p] lg dp wr l):wr.cell? ⟨p,0,none⟩=some ρ.ptr:=(A.uS p Tae).2.2.cell 0
theorem Ba.start (A:Ba ρ w q yL lg dp wr l)(m:fl)(d:St)(hpl:∀p∈yL,p < wr.heap.size)(hl:lg2=(lg || d.long))(hd:dp=(dp2 || cZ d.exprs))(EC:lg=(lg2 || d.long))(hat:∀W S,St.at_ W S d m):vy ρ w q yL lg2 dp2 wr.heap.size (wr.alloc (gQ m)) l m d:=by have hb:=aa wr (gQ m);exact⟨by rw[<- EC,<- hd];exact A.later hb,av.new wr _ _,hat _ _,A.res.lt,hpl⟩
theorem vy.later (A:vy ρ w q yL lg dp b wr l m d)(hb:Below wr.heap.size wr w2):vy ρ w q yL lg dp b w2 l m d:=
 ⟨A.sa.later hb,A.blk.later hb,St.at_.keep (gh hb) A.at_,A.qb,A.pb⟩
theorem vy.go (A:vy ρ w q yL lg dp b wr l m d)(hg:ρ.g < w.heap.size)(D:aY ρ wr w2 l2 (lg || d.long) (dp || cZ d.exprs)):vy ρ w q yL lg dp b w2 l2 m d:=by have hq:=A.qb;have hw:=A.sa.qw;exact⟨A.sa.go hg D,D.blk A.blk Taa,St.at_.keep (eU D.grown Taa) A.at_,A.qb,A.pb⟩
theorem vy.set {m':fl} {d':St}(A:vy ρ w q yL lg dp b wr l m d)(hg:ρ.g < w.heap.size)(D:aY ρ wr w2 l2 lg2 dp2)(i:Nat)(u:Value)(hb:(bD m').toArray=(bD m).toArray.setIfInBounds i u)(hl:lg2=(lg || d'.long))(hd:dp2=(dp || cZ d'.exprs))(hat:d.at_ w2 (eC (b+1) w2) m->St.at_ w2 (eC (b+1) w2) d' m'):vy ρ w q yL lg dp b (w2.setCell ⟨b,i,none⟩ u) l2 m' d':=by
 have hq:=A.qb;have hw:=A.sa.qw;have S:=A.sa.go hg D;refine⟨⟨?_,S.res.far (p:=⟨b,i,none⟩) Tad u,S.qw,λ p hp=>?_⟩,?_,St.at_.keep (pc (Nat.lt_succ_self _) i u) (hat (St.at_.keep (eU D.grown Taa) A.at_)),A.qb,A.pb⟩
 ·rw[<- hl,<- hd];exact S.did.far hg Taa i u
 ·obtain⟨a,c,h⟩:=S.uS p hp;have:=A.pb p hp;exact⟨a,c,h.far (p:=⟨b,i,none⟩) Tad u⟩
 ·rw[hb];exact(D.blk A.blk Taa).cC i u
def stG (ρ:bp)(w:World)(q p b:Nat)(m:fl)(d:St)(k:Nat):vp:=⟨ρ,w,34,b,k,p,b+1,(bD m).toArray,[(q,34,cN)],λ W S=>d.at_ W S m⟩
theorem vy.fit {p:Nat}(A:vy ρ w q [p] lg dp b wr l m d)(hg:ρ.g < w.heap.size)(k:Nat)(hk:k < 28):(stG ρ w q p b m d k).Fit:=by have hq:=A.qb;have hw:=A.sa.qw;have hp:=A.pb p Tae;obtain⟨h1,h2,_⟩:=A.sa.uS p Tae;exact⟨hg,by show w.heap.size<=b;omega,by show ρ.g < p;omega,by show p≠b;omega,Nat.lt_succ_self _,by show p < b+1;omega,λ x hx=>by simp[stG] at hx;subst hx;exact⟨hw,by show q≠b;omega,by show q < b+1;omega⟩,by show k < 28;exact hk,λ w w' S S' h hk=>St.at_.keep hk h⟩
theorem vy.start {p:Nat}(A:vy ρ w q [p] lg dp b wr l m d) {α:Type}(E:El α)(T:TypeId)(k:Nat)(hk:(bD m).toArray.setIfInBounds k (.slice none 0 0)=(bD m).toArray):(stG ρ w q p b m d k).acc E T [] wr:=
 ⟨.slice none 0 0,by show av wr _ _ ((bD m).toArray.setIfInBounds k _);rw[hk];exact A.blk,jw.nil E T wr _,St.at_.keep (λ b hb=>⟨λ _=>rfl,hb.1,hb.2,by simp[Value.ownBlock]⟩) A.at_,by have:=A.blk.lt;show b+1<=_;omega,(A.sa.uS p Tae).2.2,λ x hx=>by simp[stG] at hx;subst hx;exact A.sa.res⟩
theorem vy.list {p:Nat} {α:Type} {E:El α} {T:TypeId} {k:Nat} {xs:List α} {m':Sl->fl} {d':St}(A:vy ρ w q [p] lg dp b wr l m d)(hs:(stG ρ w q p b m d k).acc E T xs w2)(D:aY ρ w w2 l2 lg2 dp2)(hm:∀sl,(bD (m' sl)).toArray=(bD m).toArray.setIfInBounds k (fF sl))(hl:lg2=(lg || d'.long))(hd:dp2=(dp || cZ d'.exprs))(hat:∀sl,E.sl w2 (eC (b+1) w2) sl xs->d.at_ w2 (eC (b+1) w2) m->d'.at_ w2 (eC (b+1) w2) (m' sl)):∃sl,vy ρ w q [p] lg dp b w2 l2 (m' sl) d':=by
 obtain⟨v,B⟩:=hs;obtain⟨sl,hv,_,jk⟩:=B.row.sl (B':=b+1) (Nat.le_refl _);obtain⟨h1,h2,_⟩:=A.sa.uS p Tae;refine⟨sl,⟨?_,B.Zj (q,34,cN) (by simp[stG]),A.sa.qw,λ p' hp=>by simp at hp;subst hp;exact⟨h1,h2,B.uS⟩⟩,?_,hat sl jk (St.at_.keep (CW (Nat.le_refl _)) B.kp),A.qb,A.pb⟩
 ·rw[<- hl,<- hd];exact D
 ·rw[hm,<- hv];exact B.blk
theorem vy.post {P:Ps St} {l0:aI}(A:vy ρ w q yL lg dp b wr l m d)(hg:ρ.g < w.heap.size)(hp:P l0=.ok (d,l)):cI ρ w lg dp P l0 (.returned (ji m)) (wr.setRow q (bD m).toArray):=by have hq:=A.qb;have hw:=A.sa.qw;exact GP.ok hp ⟨m,rfl,St.at_.keep (gW Taa) (St.at_.keep (iI wr (show q < b+1 by omega) _) A.at_),A.sa.did.own hg (cH wr _ _) (λ G e=>by injection e with e;omega)⟩
end
def EP:Obj:=.cells #[.slice none 0 0,.string ⟨#[]⟩,.bool false,.slice none 0 0,.slice none 0 0,.slice none 0 0,.slice none 0 0,.slice none 0 0] 28
def afF (items:List (Tr×ByteArray))(only:Bool)(aK:ByteArray)(aR group having:List Tr)(order:List (Tr×Bool)):Ps Qu:=do
 let aG <- sZ
 return { items,aK,only,aR,group,having,order,aG }
def alo (items:List (Tr×ByteArray))(only:Bool)(aK:ByteArray)(aR group having:List Tr):Ps Qu:=do
 let order <- nA
 afF items only aK aR group having order
def afG (items:List (Tr×ByteArray))(only:Bool)(aK:ByteArray)(aR group:List Tr):Ps Qu:=do
 let having <- gR mP
 alo items only aK aR group having
def alp (items:List (Tr×ByteArray))(only:Bool)(aK:ByteArray)(aR:List Tr):Ps Qu:=do
 let group <- ry
 afG items only aK aR group
def alq (items:List (Tr×ByteArray))(only:Bool)(aK:ByteArray):Ps Qu:=do
 let aR <- gR dh
 alp items only aK aR
def alr (items:List (Tr×ByteArray))(only:Bool):Ps Qu:=do
 let aK <- cD
 alq items only aK
def als (items:List (Tr×ByteArray)):Ps Qu:=do
 let only <- may jo
 alr items only
def afH (items:List (Tr×ByteArray)):Ps Qu:=do
 must cu
 als items
def alu:Ps Qu:=do
 let items <- sY
 afH items
variable{S:Nat->Prop}{G:Nat}{k:Int}
theorem Zu(h:av w G 2 #[.int .i64 k])(hS:S G):Cf.sl w S ⟨some ⟨G,0,none⟩,1,1⟩ [k]:=
 ⟨rfl,[k],Cg (f:=λ k:Int=> [Value.int .i64 k]) (λ _=>rfl) h hS,.one rfl⟩
theorem zi4.Kc3(h:p:=by
 intro e w8b hp
 rcases hp.cases with ⟨_,l8b,v9,az,rfl,rfl,d⟩|⟨m,au,rfl,hg⟩;case inr=>
  have ER:must mO l7.tail=.error m:=by rw[<- ay];exact au
  have HF:=hid (show cY l=.error m from HE7.out.trans (ak (HW.out.trans (ak ER))));have HG:=hid HB.out.did.grown;clear hp au ER;go_wp2_with fail;exact aj rfl (GP.err HF.out ⟨rfl,ai HG.out hg⟩)
 have jW:must mO l7.tail=.ok ((),l8b):=by rw[<- ay];exact az
 have alx:=hid (show ry l7=dI eJ l8b from HW.out.trans (ag jW));have Zv:=hid (HB.out.go bj d);clear hp az jW d HB hq;have p0:=Zv.out.ptr;have hq:=Zv.out.blk.lt;have F:=Jd (ρ:=ρ) (w:=w) (m:= { items:=sl,only:=only,aK:=aK,aR:=sw }) (d:= { items:=items,only:=only,aK:=aK,aR:=aR }) bj 4 Tab
 have L:Lst ρ w (λ t=>decide (32 < t.depth)) eJ 151 #[.pointer (some ⟨w.heap.size+1+1,0,none⟩),.pointer (some ⟨w.heap.size,0,none⟩)] ((Wk ρ w { items:=sl,only:=only,aK:=aK,aR:=sw } { items:=items,only:=only,aK:=aK,aR:=aR } 4).acc eE 36):=
  ⟨kH,enters_of Tryz.func151 Tac rfl,λ acc a b hs hg _=>by obtain⟨v,h⟩:=hs;exact⟨v,h.grown F hg⟩,λ acc W l lg dp hn hs hd=>LA (Wk ρ w { items:=sl,only:=only,aK:=aK,aR:=sw } { items:=items,only:=only,aK:=aK,aR:=aR } 4) F rfl rfl acc W l lg dp hn hs hd⟩
 have hm:=nS ρ w (λ t=>decide (32 < t.depth)) eJ 151 #[.pointer (some ⟨w.heap.size+1+1,0,none⟩),.pointer (some ⟨w.heap.size,0,none⟩)] _ L w8b l8b _ _ Zv.out.did (Zv.out.start eE 36 4 rfl) bj;clear L F;go_wp2_with fail;refine hm.mono ?_;clear hm p0;intro e w8c hp;unfold iK at hp
 cases hx:dI eJ l8b with
 | error m=>rw[hx] at hp;obtain⟨rfl,hg⟩:=hp;have HF:=hid (show cY l=.error m from HE7.out.trans (ak (alx.out.trans hx)));exact Zcl
 | ok z=>obtain⟨xs,l8c⟩:=z;rw[hx] at hp;obtain⟨rfl,hs,hd⟩:=hp;obtain⟨so,hA⟩:=GQ.list (lg:=lg) (dp:=dp) (m':=λ so=> { items:=sl,only:=only,aK:=aK,aR:=sw,group:=so }) (d':= { items:=items,only:=only,aK:=aK,aR:=aR,group:=xs }) hs hd (λ _=>rfl) Tax Tak (λ so jk hat=> { hat with group:=jk });have HAX:=hid hA;have LF:=hid (HE7.out.trans (ag (alx.out.trans hx)));clear hx hA hs hd Zv;go_wp2_with fail;go_meet;exact⟨xs,so,l8c,LF.out,HAX.out⟩):p:=h
theorem zi5.Kc3(h:p:=by
 intro e aqA hp
 rcases hp.cases with ⟨_,aay,v9,az,rfl,rfl,d⟩|⟨m,au,rfl,hg⟩;case inr=>
  have ER:must mO l10.tail=.error m:=by rw[<- ay];exact au
  have HF:=hid (show cY l=.error m from Pg.out.trans (ak (HW.out.trans (ak ER))));have HG:=hid HB.out.did.grown;clear hp au ER;go_wp2_with fail;exact aj rfl (GP.err HF.out ⟨rfl,ai HG.out hg⟩)
 have jW:must mO l10.tail=.ok ((),aay):=by rw[<- ay];exact az
 have adb:=hid (show nA l10=dI lu aay from HW.out.trans (ag jW));have LH:=hid (HB.out.go bj d);clear hp az jW d HB hq;have p0:=LH.out.ptr;have hq:=LH.out.blk.lt;have F:=Jd (ρ:=ρ) (w:=w) (m:= { items:=sl,only:=only,aK:=aK,aR:=sw,group:=sg,having:=sh }) (d:= { items:=items,only:=only,aK:=aK,aR:=aR,group:=group,having:=having }) bj 6 Tab
 have L:Lst ρ w (λ x=>decide (32 < x.1.depth)) lu 152 #[.pointer (some ⟨w.heap.size,0,none⟩),.pointer (some ⟨w.heap.size+1+1,0,none⟩)] ((Wk ρ w { items:=sl,only:=only,aK:=aK,aR:=sw,group:=sg,having:=sh } { items:=items,only:=only,aK:=aK,aR:=aR,group:=group,having:=having } 6).acc kt 86):=
  ⟨mQ,enters_of Tryz.func152 Tac rfl,λ acc a b hs hg _=>by obtain⟨v,h⟩:=hs;exact⟨v,h.grown F hg⟩,λ acc W l lg dp hn hs hd=>LD (Wk ρ w { items:=sl,only:=only,aK:=aK,aR:=sw,group:=sg,having:=sh } { items:=items,only:=only,aK:=aK,aR:=aR,group:=group,having:=having } 6) F rfl rfl acc W l lg dp hn hs hd⟩
 have hm:=nS ρ w (λ x=>decide (32 < x.1.depth)) lu 152 #[.pointer (some ⟨w.heap.size,0,none⟩),.pointer (some ⟨w.heap.size+1+1,0,none⟩)] _ L aqA aay _ _ LH.out.did (LH.out.start kt 86 6 rfl) bj;clear L F;go_wp2_with fail;refine hm.mono ?_;clear hm p0;intro e axj hp;unfold iK at hp
 cases hx:dI lu aay with
 | error m=>rw[hx] at hp;obtain⟨rfl,hg⟩:=hp;have HF:=hid (show cY l=.error m from Pg.out.trans (ak (adb.out.trans hx)));exact Zcl
 | ok z=>obtain⟨xs,aqB⟩:=z;rw[hx] at hp;obtain⟨rfl,hs,hd⟩:=hp;obtain⟨so,hA⟩:=GQ.list (lg:=lg) (dp:=dp) (m':=λ so=> { items:=sl,only:=only,aK:=aK,aR:=sw,group:=sg,having:=sh,order:=so }) (d':= { items:=items,only:=only,aK:=aK,aR:=aR,group:=group,having:=having,order:=xs }) hs hd (λ _=>rfl) Tax Tak (λ so jk hat=> { hat with order:=jk });have HAX:=hid hA;have LF:=hid (Pg.out.trans (ag (adb.out.trans hx)));clear hx hA hs hd LH;go_wp2_with fail;go_meet;exact⟨xs,so,aqB,LF.out,HAX.out⟩):p:=h
theorem zi7.Kc4(h:p:=by
 clear hm p0;intro e w4 hp
 rcases hp.cases with ⟨_,l4,v9,az,rfl,rfl,d⟩|⟨m,au,rfl,hg⟩;case inr=>
  have ER:must cu l3=.error m:=by rw[<- ay];exact au
  have HF:=hid (show cY l=.error m from uK.out.trans (ak ER));have HG:=hid HB.out.did.grown;clear hp au ER;go_wp2_with fail;exact aj rfl (GP.err HF.out ⟨rfl,ai HG.out hg⟩)
 have jW:must cu l3=.ok ((),l4):=by rw[<- ay];exact az
 have MO:=hid (show cY l=als items l4 from uK.out.trans (ag jW));have qX:=hid (HB.out.go bj d);clear hp az jW d HB hq;have p0:=qX.out.ptr;have hm:=br ρ w4 l4 _ _ qX.out.did.at_ ⟨#[111,110,108,121]⟩;rw[show(⟨#[111,110,108,121]⟩:ByteArray).data.toList=jo from rfl] at hm;go_wp2_with fail;refine hm.mono ?_;clear hm p0;rintro e w5 ⟨rfl,d⟩;have hX:=d.blk qX.out.blk Taa;have hc:w5.cell? ⟨w.heap.size+1+1,2,none⟩=_:=hX.cell 2;have hf:w5.frozen? ⟨w.heap.size+1+1,2,none⟩=_:=hX.frozen 2;have EL:=hid (qX.out.set (m':= { items:=sl,only:=ar jo l4 }) (d':= { items:=items,only:=ar jo l4 }) bj d 2 (.bool (ar jo l4)) rfl (rfl) (rfl) (λ hat=> { hat with only:=rfl }));have HE5:=hid (show cY l=alr items (ar jo l4) (iJ jo l4)from MO.out.trans (ag (tL jo l4)));clear hX d qX;generalize ar jo l4=only at*;generalize iJ jo l4=l5 at*;clear MO uK;go_upto_region 7 with fail;clear hc hf;generalize w5.setCell _ _=W5 at*;have p0:=EL.out.ptr;go_wp2_with fail;refine(dU ρ W5 l5 _ _ EL.out.did.at_).mono ?_;clear p0;intro e w6 hp;rcases hp.cases with ⟨aK,l6,v9,az,rfl,rfl,d⟩|⟨m,au,rfl,hg⟩;case inr=>have HF:=hid (show cY l=.error m from HE5.out.trans (ak au));have HG:=hid EL.out.did.grown;clear hp au;go_wp2_with fail;exact aj rfl (GP.err HF.out ⟨rfl,ai HG.out hg⟩)
 have hX:=d.blk EL.out.blk Taa;have hc:w6.cell? ⟨w.heap.size+1+1,1,none⟩=_:=hX.cell 1;have hf:w6.frozen? ⟨w.heap.size+1+1,1,none⟩=_:=hX.frozen 1;have BB:=hid (EL.out.set (m':= { items:=sl,only:=only,aK:=aK }) (d':= { items:=items,only:=only,aK:=aK }) bj d 1 (.string aK) rfl (rfl) (rfl) (λ hat=> { hat with aK:=rfl }));have HE6:=hid (show cY l=alq items only aK l6 from HE5.out.trans (ag az));clear hp az hX d EL HE5;go_upto_region 8 with fail;clear hc hf;generalize w6.setCell _ _=W6 at*;have p0:=BB.out.ptr;have hq:=BB.out.blk.lt;have hm:=wF ρ W6 l6 _ _ BB.out.did.at_ dh;rw[show dh.toArray= #[119,104,101,114,101] from rfl] at hm;go_wp2_with fail;refine hm.mono ?_;clear hm p0;intro e w7 hp;rcases GP.cases hp with ⟨aR,l7,v9,az,rfl,⟨A,n,c⟩,rfl,jk,d⟩|⟨m,au,rfl,hg⟩;case inr=>have HF:=hid (show cY l=.error m from HE6.out.trans (ak au));have HG:=hid BB.out.did.grown;clear hp au;go_wp2_with fail;exact aj rfl (GP.err HF.out ⟨rfl,ai HG.out hg⟩)
 have hX:=d.blk BB.out.blk Taa;have hc:w7.cell? ⟨w.heap.size+1+1,3,none⟩=_:=hX.cell 3;have hf:w7.frozen? ⟨w.heap.size+1+1,3,none⟩=_:=hX.frozen 3;have HA7:=hid (BB.out.set (m':= { items:=sl,only:=only,aK:=aK,aR:=⟨A,n,c⟩}) (d':= { items:=items,only:=only,aK:=aK,aR:=aR }) bj d 3 (.slice A n c) rfl Tax Tak (λ hat=> { hat with aR:=El.lies.more jk Taa}));have HE7:=hid (show cY l=alp items only aK aR l7 from HE6.out.trans (ag az));clear hp az jk hq hX d BB HE6;unfold fF;go_upto_region 9 with fail;obtain⟨sw,hsw⟩:∃s:Sl,s=⟨A,n,c⟩:=⟨_,rfl⟩;rw[<- hsw] at HA7;clear hsw hc hf;generalize w7.setCell _ _=W7 at*;have p0:=HA7.out.ptr;have hm:=br ρ W7 l7 _ _ HA7.out.did.at_ ⟨#[103,114,111,117,112]⟩;rw[show(⟨#[103,114,111,117,112]⟩:ByteArray).data.toList=iz from rfl] at hm;go_upto_if 26 with fail;refine hm.mono ?_;clear hm p0;rintro e w8 ⟨rfl,d⟩;have Ej:=hid (HA7.out.go bj d);clear d HA7;go_upto_if 26 with fail;go_cut [] (λ wx=>∃(group:List Tr) (so:Sl) (l':aI),cY l=afG items only aK aR group l'/\GQ ρ w lg dp wx l' { items:=sl,only:=only,aK:=aK,aR:=sw,group:=so } { items:=items,only:=only,aK:=aK,aR:=aR,group:=group })
 case first=>
  cases hst:ar iz l7
  ·rw[ck hst] at Ej;have LF:=hid (show cY l=afG items only aK aR [] l7 from HE7.out.trans (ag (Zs hst)));clear hst;go_wp2_with fail;go_meet;exact⟨[],Sl.nil,_,LF.out,Ej.out⟩
  ·rw[cw hst] at Ej;have HW:=hid (Uz hst);clear hst;have hb:=aa w8 (.cells (aP [mO]) 9);have HB:=hid (Ej.out.later hb);have hq:=Ej.out.blk.lt;have p0:=Ej.out.ptr;have hm:=aW ρ _ l7.tail _ _ HB.out.did.at_ [mO] w8.heap.size 1 rfl (av.new w8 _ _) Taa Taa;clear hb Ej;open zi4 in exact Zhx
 case rest=>
  obtain⟨group,sg,l9,hE,hA⟩:=hcut;have bN:=hid hE;have fB:=hid hA;clear hE hA Ej HE7;have p0:=fB.out.ptr;have hq:=fB.out.blk.lt;have hm:=wF ρ wc l9 _ _ fB.out.did.at_ mP;rw[show mP.toArray= #[104,97,118,105,110,103] from rfl] at hm;go_wp2_with fail;refine hm.mono ?_;clear hm p0;intro e wa hp;rcases GP.cases hp with ⟨having,l10,v9,az,rfl,⟨A,n,c⟩,rfl,jk,d⟩|⟨m,au,rfl,hg⟩;case inr=>have HF:=hid (show cY l=.error m from bN.out.trans (ak au));have HG:=hid fB.out.did.grown;clear hp au;go_wp2_with fail;exact aj rfl (GP.err HF.out ⟨rfl,ai HG.out hg⟩)
  have hX:=d.blk fB.out.blk Taa;have hc:wa.cell? ⟨w.heap.size+1+1,5,none⟩=_:=hX.cell 5;have hf:wa.frozen? ⟨w.heap.size+1+1,5,none⟩=_:=hX.frozen 5;have Dh:=hid (fB.out.set (m':= { items:=sl,only:=only,aK:=aK,aR:=sw,group:=sg,having:=⟨A,n,c⟩}) (d':= { items:=items,only:=only,aK:=aK,aR:=aR,group:=group,having:=having }) bj d 5 (.slice A n c) rfl Tax Tak (λ hat=> { hat with having:=El.lies.more jk Taa}));have Pg:=hid (show cY l=alo items only aK aR group having l10 from bN.out.trans (ag az));clear hp az jk hq hX d fB bN;unfold fF;go_upto_region 13 with fail;obtain⟨sh,Su⟩:∃s:Sl,s=⟨A,n,c⟩:=⟨_,rfl⟩;rw[<- Su] at Dh;clear Su hc hf;generalize wa.setCell _ _=W10 at*;have p0:=Dh.out.ptr;have hm:=br ρ W10 l10 _ _ Dh.out.did.at_ ⟨#[111,114,100,101,114]⟩;rw[show(⟨#[111,114,100,101,114]⟩:ByteArray).data.toList=iB from rfl] at hm;go_upto_if 37 with fail;refine hm.mono ?_;clear hm p0;rintro e FL ⟨rfl,d⟩;have LG:=hid (Dh.out.go bj d);clear d Dh;go_upto_if 37 with fail;go_cut [] (λ wx=>∃(order:List (Tr×Bool)) (so:Sl) (l':aI),cY l=afF items only aK aR group having order l'/\GQ ρ w lg dp wx l' { items:=sl,only:=only,aK:=aK,aR:=sw,group:=sg,having:=sh,order:=so } { items:=items,only:=only,aK:=aK,aR:=aR,group:=group,having:=having,order:=order })
  case first=>
   cases hst:ar iB l10
   ·rw[ck hst] at LG;have LF:=hid (show cY l=afF items only aK aR group having [] l10 from Pg.out.trans (ag (UA hst)));clear hst;go_wp2_with fail;go_meet;exact⟨[],Sl.nil,_,LF.out,LG.out⟩
   ·rw[cw hst] at LG;have HW:=hid (Pv hst);clear hst;have hb:=aa FL (.cells (aP [mO]) 9);have HB:=hid (LG.out.later hb);have hq:=LG.out.blk.lt;have p0:=LG.out.ptr;have hm:=aW ρ _ l10.tail _ _ HB.out.did.at_ [mO] FL.heap.size 1 rfl (av.new FL _ _) Taa Taa;clear hb LG;open zi5 in exact Zhx
  case rest=>
   obtain⟨order,so,MP,hE,hA⟩:=hcut;have aaz:=hid hE;have aaA:=hid hA;clear hE hA LG Pg;have p0:=aaA.out.ptr;have hm:=br ρ wc MP _ _ aaA.out.did.at_ ⟨#[108,105,109,105,116]⟩;rw[show(⟨#[108,105,109,105,116]⟩:ByteArray).data.toList=jd from rfl] at hm;go_wp2_with fail;refine hm.mono ?_;clear hm p0;rintro e KS ⟨rfl,d⟩;have zF:=hid (aaA.out.go bj d);clear d aaA;cases hst:ar jd MP
   ·rw[ck hst] at zF;have LF:=hid (show cY l=.ok ({ items:=items,only:=only,aK:=aK,aR:=aR,group:=group,having:=having,order:=order },MP)from aaz.out.trans ((ag (Zt hst)).trans rfl));clear hst;go_wp2_with (first
     |(refine wpList_load_row rfl 28 (.tmp 3) rfl (w.heap.size+1+1) rfl 28 _ (0,0) _ zF.out.blk Tryz.underlying28 rfl uV ?_)
     |(refine wpList_store_row rfl 28 (.tmp 2) (.tmp 50) rfl (w.heap.size+1) (jX { items:=sl,only:=only,aK:=aK,aR:=sw,group:=sg,having:=sh,order:=so }).toArray rfl rfl 28 qu0 zF.out.res uV rfl (Zq _) ?_
       have HR:=hid (zF.out.res.row (jX { items:=sl,only:=only,aK:=aK,aR:=sw,group:=sg,having:=sh,order:=so }).toArray)))
    exact bodyPost_ret (v:=Hv { items:=sl,only:=only,aK:=aK,aR:=sw,group:=sg,having:=sh,order:=so }) (results_cell_row Tryz.results113 _ _ (w.heap.size+1) 28 (jX { items:=sl,only:=only,aK:=aK,aR:=sw,group:=sg,having:=sh,order:=so }).toArray (0,0) _ rfl HR.out Tryz.underlying28 rfl uV) rfl (zF.out.post bj LF.out)
   ·rw[cw hst] at zF;have HW:=hid (UB hst);clear hst;have p0:=zF.out.ptr;go_wp2_with fail;refine(dY ρ KS _ _ _ zF.out.did.at_).mono ?_;clear p0;intro e Iw hp;rcases hp.cases with ⟨k,LI,v9,az,rfl,rfl,_,d⟩|⟨m,au,rfl,hg⟩;case inr=>have HF:=hid (show cY l=.error m from aaz.out.trans (ak (HW.out.trans (ak au))));have HG:=hid zF.out.did.grown;clear hp au;go_wp2_with fail;exact aj rfl (GP.err HF.out ⟨rfl,ai HG.out hg⟩)
    have LF:=hid (show cY l=.ok ({ items:=items,only:=only,aK:=aK,aR:=aR,group:=group,having:=having,order:=order,aG:=[k] },LI)from aaz.out.trans ((ag (HW.out.trans ((ag az).trans rfl))).trans rfl));have hq:=zF.out.blk.lt;have hs:=d.size;have hb:=aa Iw (.cells #[.int .i64 k] 2);have hN:=Zu (S:=eC (w.heap.size+3) (Iw.alloc (.cells #[.int .i64 k] 2))) (av.new Iw 2 #[.int .i64 k]) ⟨by omega,by simp⟩;have hX:=(d.later hb).blk zF.out.blk Taa;have hc:(Iw.alloc (.cells #[.int .i64 k] 2)).cell? ⟨w.heap.size+1+1,7,none⟩=_:=hX.cell 7;have hf:(Iw.alloc (.cells #[.int .i64 k] 2)).frozen? ⟨w.heap.size+1+1,7,none⟩=_:=hX.frozen 7;have aaB:=hid (zF.out.set (m':= { items:=sl,only:=only,aK:=aK,aR:=sw,group:=sg,having:=sh,order:=so,aG:=⟨some ⟨Iw.heap.size,0,none⟩,1,1⟩}) (d':= { items:=items,only:=only,aK:=aK,aR:=aR,group:=group,having:=having,order:=order,aG:=[k] }) bj (d.later hb) 7 (.slice (some ⟨Iw.heap.size,0,none⟩) 1 1) rfl rfl rfl (λ hat=> { hat with aG:=hN }));clear hp az hX d hb hN zF aaz HW;go_upto_region 18 with fail
    clear hc hf;generalize (World.setCell _ _ _)=W15 at*;generalize (some (Addr.mk Iw.heap.size 0 none))=AX at*;go_wp2_with (first
     |(refine wpList_load_row rfl 28 (.tmp 3) rfl (w.heap.size+1+1) rfl 28 _ (0,0) _ aaB.out.blk Tryz.underlying28 rfl uV ?_)
     |(refine wpList_store_row rfl 28 (.tmp 2) (.tmp 50) rfl (w.heap.size+1) (jX { items:=sl,only:=only,aK:=aK,aR:=sw,group:=sg,having:=sh,order:=so,aG:=⟨AX,1,1⟩}).toArray rfl rfl 28 qu0 aaB.out.res uV rfl (Zq _) ?_
       have HR:=hid (aaB.out.res.row (jX { items:=sl,only:=only,aK:=aK,aR:=sw,group:=sg,having:=sh,order:=so,aG:=⟨AX,1,1⟩}).toArray)))
    exact bodyPost_ret (v:=Hv { items:=sl,only:=only,aK:=aK,aR:=sw,group:=sg,having:=sh,order:=so,aG:=⟨AX,1,1⟩}) (results_cell_row Tryz.results113 _ _ (w.heap.size+1) 28 (jX { items:=sl,only:=only,aK:=aK,aR:=sw,group:=sg,having:=sh,order:=so,aG:=⟨AX,1,1⟩}).toArray (0,0) _ rfl HR.out Tryz.underlying28 rfl uV) rfl (aaB.out.post bj LF.out)):p:=h
theorem zib.KcD(h:p:=by
 have b1:=aa w (.cells #[ρ.ptr] 77);have b3:=af.then (af.then b1 (aa _ EP)) (aa _ EP)
 have hP:=((av.new w 77 #[ρ.ptr]).alloc EP).alloc EP;have hR:=(av.new (w.alloc (.cells #[ρ.ptr] 77)) 28 qu0).alloc EP;have hQ:=av.new ((w.alloc (.cells #[ρ.ptr] 77)).alloc EP) 28 (jX {}).toArray;rw[World.size_alloc] at hR;rw[World.size_alloc,World.size_alloc] at hQ;have HA:=hid (show GQ ρ w lg dp (((w.alloc (.cells #[ρ.ptr] 77)).alloc EP).alloc EP) l {} {} from
  ⟨by simpa [Qu.long,Qu.exprs,cZ] using aY.aC h b3,hQ,hR,hP,Qu.kv _ _⟩)
 have HE:=hid (show cY l=(must cX >>= λ _=>alu) l from rfl);clear h b1 b3 hP hR hQ;go_enter Tryz.func113,Tryz.ntmps113;go_upto_region 2 with fail;change Code.wp _ _ _ _ (((w.alloc (.cells #[ρ.ptr] 77)).alloc EP).alloc EP);generalize hW:(World.alloc _ _)=W0 at*;clear hW;have hb:=aa W0 (.cells (aP [cX]) 9);have HB:=hid (HA.out.later hb);have hq:=HA.out.blk.lt;have p0:=HA.out.ptr;have hm:=aW ρ _ l _ _ HB.out.did.at_ [cX] W0.heap.size 1 rfl (av.new W0 _ _) Taa Taa;clear hb HA;unfold aP strOf at hm HB;simp only[map_cons,map_nil] at hm HB;rw[show cX.toArray= #[115,101,108,101,99,116] from rfl] at hm HB;go_wp2_with fail;refine hm.mono ?_;clear hm p0;intro e w1 hp
 rcases hp.cases with ⟨_,l1,v9,az,rfl,rfl,d⟩|⟨m,au,rfl,hg⟩;case inr=>
  have ER:must cX l=.error m:=by rw[<- ay];exact au
  have HF:=hid (show cY l=.error m from HE.out.trans (ak ER));have HG:=hid HB.out.did.grown;clear hp au ER;go_wp2_with fail;exact aj rfl (GP.err HF.out ⟨rfl,ai HG.out hg⟩)
 have jW:must cX l=.ok ((),l1):=by rw[<- ay];exact az
 have vU:=hid (show cY l=alu l1 from HE.out.trans (ag jW));have pK:=hid (HB.out.go bj d);clear hp az jW d HB hq;have p0:=pK.out.ptr;have hm:=br ρ w1 l1 _ _ pK.out.did.at_ ⟨#[42]⟩;rw[show(⟨#[42]⟩:ByteArray).data.toList=fe from rfl] at hm;go_upto_if 9 with fail;refine hm.mono ?_;clear hm p0;rintro e w2 ⟨rfl,d⟩;have gP:=hid (pK.out.go bj d);clear d pK HE;go_upto_if 9 with fail;go_cut [] (λ wx=>∃(items:List (Tr×ByteArray)) (sl:Sl) (l':aI),cY l=afH items l'/\GQ ρ w lg dp wx l' { items:=sl } { items:=items })
 case first=>
  cases hst:ar fe l1
  ·rw[ck hst] at gP;have HY:=hid (aaw hst);clear hst;have p0:=gP.out.ptr;have hq:=gP.out.blk.lt;have F:=Jd (ρ:=ρ) (w:=w) (m:= {}) (d:= {}) bj 0 Tab
   have L:Lst ρ w (λ x=>decide (32 < x.1.depth)) nZ 150 #[.pointer (some ⟨w.heap.size,0,none⟩),.pointer (some ⟨w.heap.size+1+1,0,none⟩)] ((Wk ρ w {} {} 0).acc iX 51):=
    ⟨mg,enters_of Tryz.func150 Tac rfl,λ acc a b hs hg _=>by obtain⟨v,h⟩:=hs;exact⟨v,h.grown F hg⟩,λ acc W l lg dp hn hs hd=>Po (Wk ρ w {} {} 0) F rfl rfl acc W l lg dp hn hs hd⟩
   have hm:=nS ρ w (λ x=>decide (32 < x.1.depth)) nZ 150 #[.pointer (some ⟨w.heap.size,0,none⟩),.pointer (some ⟨w.heap.size+1+1,0,none⟩)] _ L w2 l1 _ _ gP.out.did (gP.out.start iX 51 0 rfl) bj;clear L F;go_wp2_with fail;refine hm.mono ?_;clear hm p0;intro e w3 hp;unfold iK at hp
   cases hx:dI nZ l1 with
   | error m=>rw[hx] at hp;obtain⟨rfl,hg⟩:=hp;have HF:=hid (show cY l=.error m from vU.out.trans (ak (HY.out.trans hx)));exact Zcl
   | ok z=>obtain⟨xs,l3⟩:=z;rw[hx] at hp;obtain⟨rfl,hs,hd⟩:=hp;obtain⟨so,hA⟩:=GQ.list (lg:=lg) (dp:=dp) (m':=λ so=> { items:=so }) (d':= { items:=xs }) hs hd (λ _=>rfl) Tax Tak (λ so jk hat=> { hat with items:=jk });have HAX:=hid hA;have LF:=hid (vU.out.trans (ag (HY.out.trans hx)));clear hx hA hs hd gP;go_wp2_with fail;go_meet;exact⟨xs,so,l3,LF.out,HAX.out⟩
  ·rw[cw hst] at gP;have LF:=hid (show cY l=afH [] l1.tail from vU.out.trans (ag (aav hst)));clear hst;go_wp2_with fail;go_meet;exact⟨[],Sl.nil,_,LF.out,gP.out⟩
 case rest=>obtain⟨items,sl,l3,hE,hA⟩:=hcut;have uK:=hid hE;have mU:=hid hA;clear hE hA gP vU;have hb:=aa wc (.cells (aP [cu]) 9);have HB:=hid (mU.out.later hb);have hq:=mU.out.blk.lt;have p0:=mU.out.ptr;have hm:=aW ρ _ l3 _ _ HB.out.did.at_ [cu] wc.heap.size 1 rfl (av.new wc _ _) Taa Taa;clear hb mU;open zi7 in exact Zhz):p:=h
theorem Dl (ρ:bp)(w:World)(l:aI)(lg dp:Bool)(h:ρ.fU w l lg dp):
  Calls Tryz.prog 113 #[ρ.ptr] w (Zr ρ w lg dp l):=by have bj:=h.nt;open zib in exact Zgq
def Pz (w:World)(b:Nat)(m:lB):World:=(((((((w.setCell ⟨b,7,none⟩ (fF m.items)).setCell ⟨b,8,none⟩ (.string m.aK)).setCell ⟨b,9,none⟩ (.bool m.only)).setCell ⟨b,10,none⟩ (fF m.aR)).setCell ⟨b,11,none⟩ (fF m.group)).setCell ⟨b,12,none⟩ (fF m.having)).setCell ⟨b,13,none⟩ (fF m.order)).setCell ⟨b,14,none⟩ (fF m.aG)
def ZC (cs:Array Value)(m:lB):Array Value:=(((((((cs.setIfInBounds 7 (fF m.items)).setIfInBounds 8 (.string m.aK)).setIfInBounds 9 (.bool m.only)).setIfInBounds 10 (fF m.aR)).setIfInBounds 11 (fF m.group)).setIfInBounds 12 (fF m.having)).setIfInBounds 13 (fF m.order)).setIfInBounds 14 (fF m.aG)
section
variable {ρ:bp} {w wr w2:World} {q b:Nat} {yL:List Nat} {lg dp lg2 dp2:Bool} {l l2:aI} {m:fl} {d:St}
theorem vy.query {m':fl} {d':St} {qy:lB}(A:vy ρ w q yL lg dp b wr l m d)(hg:ρ.g < w.heap.size)(D:aY ρ wr w2 l2 lg2 dp2)(hb:(bD m').toArray=ZC (bD m).toArray qy)(hl:lg2=(lg || d'.long))(hd:dp2=(dp || cZ d'.exprs))(hat:d.at_ w2 (eC (b+1) w2) m->St.at_ w2 (eC (b+1) w2) d' m'):vy ρ w q yL lg dp b (Pz w2 b qy) l2 m' d':=by
 have hq:=A.qb;have hw:=A.sa.qw;have S:=A.sa.go hg D;have hB:=D.blk A.blk Taa;have hS:=hat (St.at_.keep (eU D.grown Taa) A.at_);have s:=λ(w:World) (h:St.at_ w (eC (b+1) w) d' m') (i:Nat) (u:Value)=>St.at_.keep (pc (w:=w) (Nat.lt_succ_self b) i u) h
 have t:=λ(W:World) (h:Ba ρ w q yL lg2 dp2 W l2) (i:Nat) (u:Value)=>(⟨h.did.far (q:=b) hg Taa i u,h.res.far (p:=⟨b,i,none⟩) Tad u,h.qw,λ p hp=>by
  obtain⟨a,c,k⟩:=h.uS p hp
  have:=A.pb p hp
  exact⟨a,c,k.far (p:=⟨b,i,none⟩) Tad u⟩⟩:Ba ρ w q yL lg2 dp2 (W.setCell ⟨b,i,none⟩ u) l2)
 refine⟨?_,?_,?_,A.qb,A.pb⟩
 ·rw[<- hl,<- hd];exact t _ (t _ (t _ (t _ (t _ (t _ (t _ (t _ S 7 _) 8 _) 9 _) 10 _) 11 _) 12 _) 13 _) 14 _
 ·rw[hb];exact(((((((hB.cC 7 _).cC 8 _).cC 9 _).cC 10 _).cC 11 _).cC 12 _).cC 13 _).cC 14 _
 ·exact s _ (s _ (s _ (s _ (s _ (s _ (s _ (s _ hS 7 _) 8 _) 9 _) 10 _) 11 _) 12 _) 13 _) 14 _
end
variable{P:Program}{id:Nat}{o:Oper}{Q:Exit->Act->List Frame->World->Prop}{a:Act}{v:Value}{cs':List Frame}
theorem tS{l:List Oper}   {cs:List Frame} (hw:Region.wanted o (yielded (o::l).toArray a.tmps)=true)(hr:(execOp a.eval o).run P w=.ok .recover w)  
  (hc:recoverD cs=some (v,cs')\/recoverD cs=none/\v=.nilIface/\cs'=cs) (h:wpList P (o::l).toArray (λ e a w=>Q e a cs' w) l (a.put o.dst v) w):(Code.region id (o::l).toArray false).wpS P Q a cs w:=by
 intro b k hb hro;obtain⟨e,a',w',q,aqE⟩:=wp_ops (ops:=(o::l).toArray) (List.range' 1 l.length) _ w (by rw[wpOps_eq_wpList l 1 (λ j=>by simp[Nat.add_comm])];exact h) b k cs';refine⟨e,a',cs',w',q,.of_steps (.one step_region) ?_⟩;have e0:List.range (o::l).toArray.size=0::List.range' 1 l.length:=by rw[range_eq_range'];simp[range'_succ]
 rw[e0];have ho:(o::l).toArray[0]?=some o:=by simp
 have hg:=stepG_op (P:=P) (b:=b) (k:=k) (cs:=cs) (w:=w) (rest:=List.range' 1 l.length) ho hw;have tE:∀v,(b.at a (.inRegion (o::l).toArray (0::List.range' 1 l.length)::k)).finish v=b.at (a.put o.dst v) (.inRegion (o::l).toArray (List.range' 1 l.length)::k):=by intro v;rw[Frame.finish_at,ho];rfl
 have htr:=tryRecover_deferred (fr:=b.at a (.inRegion (o::l).toArray (0::List.range' 1 l.length)::k)) hb cs;refine .of_steps (.one (step_lone_go ?_)) aqE;rw[hg,<- tE];simp only[Frame.at] at htr ⊢;rcases hc with hc |⟨hc,rfl,rfl⟩<;> simp[stepG.apply,hr,htr,hc]
theorem Dm:Tryz.prog.built 34 []=some cN:=by exact Zhj
def rH (b0 b1 b2:Nat):Array Value:= #[.pointer (some ⟨b0,0,none⟩),.pointer (some ⟨b1,0,none⟩),.pointer (some ⟨b2,0,none⟩)]
theorem zfS.KbE(h:p:=by
 refine tS (v:=.nilIface) (cs':=aaD::cs) TaQ rfl (.inr ⟨by simp[recoverD,hu],rfl,rfl⟩) ?_;have hta:∀w,(Instr.typeAssert .nilIface 20 75 true).run Tryz.prog w=.ok (.tuple #[.agg #[.int .i64 0],.bool false]) w:=λ _=>rfl
 have hb:=aa w (.cells #[.int .i64 0] 75);go_wp2_with fail;change Code.wpS _ _ _ _ _ _;refine wpS_of_wp ?_;go_wp2_with fail;simp only[bodyPostS];refine⟨trivial,aaD.mode,rfl,.tuple #[],?_,rfl,hu,?_⟩
 ·simp[results,Tryz.results26]
 ·exact hb):p:=h
theorem LJ (b0 b1 b2:Nat)(w:World):CallsD Tryz.prog 26 (rH b0 b1 b2) .returning w λ e u' w'=>e=.returned (.tuple #[])/\u'=.returning/\Below w.heap.size w w':=by
 open zfS in exact Zdd
def UE (p:Int):Value:=.iface 75 (.agg #[.int .i64 p])
theorem ze0.Kbj(h:p:=by
 rw[<- hz0];clear hz0;go_upto_region 2 with fail;change Code.wp _ _ _ _ (w.alloc (.cells #[.int .i64 p] 75));generalize w.alloc _=W at*;generalize w.heap.size=g at*;refine iG [_,_] [_,_,_,_] rfl (λ i=>if i=0 then .agg z0 else if i=1 then .pointer (some ⟨g,0,none⟩)else .int .i64 p) [3] (λ vs w'=>av w' b0 34 (if vs=[] then cs0 else z0)/\av w' b1 3 #[x]/\av w' b2 40 #[y]/\av w' g 75 #[.int .i64 p]/\Below N w w') (λ vs w' ⟨a,b,c,d,e⟩=>⟨a.drew,b.drew,c.drew,d.drew,e.drew⟩) ⟨HB0,jB,qc,HF,iE⟩ Tac Tac Tac Tac Tab rfl ?_ ?_
 ·refine⟨Zd6,?_,?_,?_,trivial⟩
  ·intro ρ w' vs hcs hG hr;have r0:ρ (.tmp 3)=.pointer (some ⟨g,0,none⟩):=hr.1;refine⟨rfl,?_⟩;simp[execOp,r0,go_sem]
  ·intro ρ w' vs hcs hG hr;have r0:ρ (.tmp 12)=.pointer (some ⟨g,0,none⟩):=hr.1;refine⟨rfl,?_⟩;have hc:=hG.2.2.2.1.cell 0;simp only[getElem?_toArray,getElem?_cons_zero] at hc;simp[execOp,r0,go_sem,hc]
  ·intro ρ w' vs hcs hG hr;have r0:ρ (.tmp 0)=.pointer (some ⟨b0,0,none⟩):=hr.1;have r1:ρ (.tmp 11)=.agg z0:=hr.2.1;refine⟨rfl,?_⟩;show vs.length=0->_;intro hl;obtain rfl:=eq_nil_of_length_eq_zero hl;obtain⟨a,b,c,d,e⟩:=hG;refine sN (w':=w'.setRow b0 z0) ?_ ?_
   ·unfold execOp;simp only[r0,r1,Instr.storeAt,Instr.sureAddr,Sem.run_bind,Sem.run_pure,Result.andThen_ok,run_storeVar_row w' b0 34 34 cs0 z0 a TaY (by rw[hs0,JG.out]) HZ1.out]
   ·exact⟨a.row z0,b.gU n1.symm z0,c.gU n2.symm z0,d.gU Taa z0,e.trans (aO (cH w' b0 z0) (by have:=a.lt;omega) h0)⟩
 ·intro vs w' hl hG
  match vs,hl with
  | [v],_=>
    obtain⟨a,b,c,d,e⟩:=hG;intro a0 z0' a1 z1 a2 z2;have z0':a0=.agg z0:=z0';have z1:a1=.pointer (some ⟨g,0,none⟩):=z1;have z2:a2=.int .i64 p:=z2;subst z0' z1 z2;have e1:=b.cell 0;have e2:=c.cell 0;simp only[getElem?_toArray,getElem?_cons_zero] at e1 e2;have f1:=b.frozen 0;have f2:=c.frozen 0;change wpList _ _ _ _ _ _;clear z0' z1 z2;go_wp2_with fail;have s0:=a.lt;have hs1:(w'.setCell ⟨b1,0,none⟩ (.int .i64 p)).heap.size=w'.heap.size:=by simp[World.setCell]
    have g1:w'.grownBy (w'.setCell ⟨b1,0,none⟩ (.int .i64 p)) (some b1):=bu (aB (Below.refl _ _)) 0 _;have g2:(w'.setCell ⟨b1,0,none⟩ (.int .i64 p)).grownBy ((w'.setCell ⟨b1,0,none⟩ (.int .i64 p)).setCell ⟨b2,0,none⟩ (.int .i64 31)) (some b2):=bu (aB (Below.refl _ _)) 0 _;refine⟨rfl,_,rfl,.tuple #[],?_,rfl,rfl,?_,?_,?_,?_⟩
    ·simp[results,Tryz.results26]
    ·exact(av.far a (p:=⟨b1,0,none⟩) n1 _).far (p:=⟨b2,0,none⟩) n2 _
    ·exact(b.cC 0 (.int .i64 p)).far (p:=⟨b2,0,none⟩) n3 _
    ·exact(c.far (p:=⟨b1,0,none⟩) n3.symm _).cC 0 (.int .i64 31)
    ·exact(e.trans (aO g1 Taa h1)).trans (aO g2 Taa h2)):p:=h
theorem zfT.KbE(h:p:=by
 refine tS (v:=UE p) (cs':= { aaD with mode:=.panicking ({ v:=UE p,recovered:=true }::Zx)}::cs) TaQ rfl (.inl (by simp[recoverD,hu])) ?_;have hta:∀w,(Instr.typeAssert (UE p) 20 75 true).run Tryz.prog w=.ok (.tuple #[.agg #[.int .i64 p],.bool true]) w:=λ _=>rfl
 go_wp2_with fail;change Code.wpS _ _ _ _ _ _;refine wpS_of_wp ?_;have hN:N<=w.heap.size:=by have:=hb0.lt;omega
 have iE:=(aa w (.cells #[.int .i64 p] 75)).mono hN;have HF:=av.new w 75 #[.int .i64 p];have HB0:=hb0.alloc (.cells #[.int .i64 p] 75);have jB:=hb1.alloc (.cells #[.int .i64 p] 75);have qc:=hb2.alloc (.cells #[.int .i64 p] 75);have q0:=hb0.lt;have q1:=hb1.lt;have q2:=hb2.lt;clear hb0 hb1 hb2 hta;open ze0 in exact Zck):p:=h
theorem Je (p:Int)(N b0 b1 b2:Nat)(h0:N<=b0)(h1:N<=b1)(h2:N<=b2)(n1:b0≠b1)(n2:b0≠b2)(n3:b1≠b2)(w:World)(cs0:Array Value)(hs0:cs0.size=28)(hb0:av w b0 34 cs0)(x y:Value)(hb1:av w b1 3 #[x])(hb2:av w b2 40 #[y])(Zx:List PanicEntry):
  CallsD Tryz.prog 26 (rH b0 b1 b2) (.panicking ({ v:=UE p,recovered:=false }::Zx)) w λ e u' w'=>e=.returned (.tuple #[])/\u'=.panicking ({ v:=UE p,recovered:=true }::Zx)/\av w' b0 34 cN/\av w' b1 3 #[.int .i64 p]/\av w' b2 40 #[.int .i64 31]/\Below N w w':=by
 open zfT in exact Zdd
structure nI (w:World) (b:Nat) (cs:Array Value) (x y:Value):Prop where
 st:av w b 34 cs
 at_:av w (b+1) 3 #[x]
 er:av w (b+2) 40 #[y]
variable{w':World}{b:Nat}{cs:Array Value}{x y:Value}
theorem nI.later(h:nI w b cs x y)(hb:Below w.heap.size w w'):nI w' b cs x y:=⟨h.st.later hb,h.at_.later hb,h.er.later hb⟩
variable{g:Nat}
theorem nI.grown(h:nI w b cs x y)(hb:w.grownBy w' (some g))(hg:b+2 < g):nI w' b cs x y:=
 ⟨h.st.grown hb (λ e=>by injection e with e;omega),h.at_.grown hb (λ e=>by injection e with e;omega),h.er.grown hb (λ e=>by injection e with e;omega)⟩
theorem nI.lt(h:nI w b cs x y):b+2 < w.heap.size:=h.er.lt
theorem rJ (w:World)(b:Nat)(cs:Array Value)(x y:Value)(h:nI w b cs x y)(hs:cs.size=28)(tmps:Array Value)(h2:tmps.getD 2 undef=.pointer (some ⟨b,0,none⟩))(h3:tmps.getD 3 undef=.pointer (some ⟨b+1,0,none⟩))(h4:tmps.getD 4 undef=.pointer (some ⟨b+2,0,none⟩)):
  (results Tryz.f14 tmps).run Tryz.prog w=.ok (.tuple #[.agg cs,x,y]) w:=by
 have nK:tmps[2]?.getD undef=.pointer (some ⟨b,0,none⟩):=by simpa using h2
 have h3':tmps[3]?.getD undef=.pointer (some ⟨b+1,0,none⟩):=by simpa using h3
 have h4':tmps[4]?.getD undef=.pointer (some ⟨b+2,0,none⟩):=by simpa using h4
 have e1:=h.at_.cell 0;have e2:=h.er.cell 0;simp only[getElem?_toArray,getElem?_cons_zero] at e1 e2;have l0:=run_loadVar_row (P:=Tryz.prog) w b 34 34 cs (0,0) _ h.st Tryz.underlying34 rfl (by rw[hs];exact cm);have l1:(loadVar 3 ⟨b+1,0,none⟩).run Tryz.prog w=.ok x w:=by simp[go_sem,e1]
 have l2:(loadVar 40 ⟨b+2,0,none⟩).run Tryz.prog w=.ok y w:=by simp[go_sem,e2]
 simp[results,Tryz.results14,nK,h3',h4',asAddr,Sem.run_bind,l0,l1,l2,Result.andThen]
def ZZ (b:Nat):Deferred:= { target:=.fn (.func 26) (rH b (b+1) (b+2)),args:= #[] }
variable{R:Ending->World->Prop}{N:Nat}{cs0 tmps:Array Value}
theorem Du(h:nI w b cs0 x y)(hs:cs0.size=28)(hN:N<=b)(p:Int) (h2:tmps.getD 2 undef=.pointer (some ⟨b,0,none⟩))(h3:tmps.getD 3 undef=.pointer (some ⟨b+1,0,none⟩))(h4:tmps.getD 4 undef=.pointer (some ⟨b+2,0,none⟩))
  (hR:∀w',Below N w w'->R (.returned (.tuple #[.agg cN,.int .i64 p,.int .i64 31])) w'):
  bodyPostD Tryz.prog Tryz.f14 R (.panic [{ v:=UE p,recovered:=false }]) { tmps:=tmps,defers:=[ZZ b] } w:=by refine leaves_cons (f:=26) (args:=rH b (b+1) (b+2)) Tae (by unfold rH;simp[go_sem]) ?_;refine(Je p N b (b+1) (b+2) hN Taa Taa Taa Taa Taa w cs0 hs h.st x y h.at_ h.er []).mono ?_;rintro e u' w' ⟨rfl,rfl,B0,B1,B2,hb⟩;show Leaves _ _ _ _ [] .returning w';exact⟨_,rJ w' b cN _ _ ⟨B0,B1,B2⟩ rfl tmps h2 h3 h4,hR w' hb⟩
theorem zG(h:nI w b cs x y)(hs:cs.size=28) (h2:tmps.getD 2 undef=.pointer (some ⟨b,0,none⟩))(h3:tmps.getD 3 undef=.pointer (some ⟨b+1,0,none⟩))(h4:tmps.getD 4 undef=.pointer (some ⟨b+2,0,none⟩))
  (hR:∀w',Below w.heap.size w w'->R (.returned (.tuple #[.agg cs,x,y])) w'):
  bodyPostD Tryz.prog Tryz.f14 R .ret { tmps:=tmps,defers:=[ZZ b] } w:=by refine leaves_cons (f:=26) (args:=rH b (b+1) (b+2)) Tae (by unfold rH;simp[go_sem]) ?_;refine(LJ b (b+1) (b+2) w).mono ?_;rintro e u' w' ⟨rfl,rfl,hb⟩;show Leaves _ _ _ _ [] .returning w';exact⟨_,rJ w' b cs _ _ (h.later hb) hs tmps h2 h3 h4,hR w' hb⟩
theorem PB(h:nI w b cs x y)(hs:cs.size=28) (h2:tmps.getD 2 undef=.pointer (some ⟨b,0,none⟩))(h3:tmps.getD 3 undef=.pointer (some ⟨b+1,0,none⟩))(h4:tmps.getD 4 undef=.pointer (some ⟨b+2,0,none⟩))
  (hR:R (.returned (.tuple #[.agg cs,x,y])) w):
  bodyPostD Tryz.prog Tryz.f14 R .ret { tmps:=tmps,defers:=[] } w:=
 ⟨_,rJ w b cs _ _ h hs tmps h2 h3 h4,hR⟩
variable{gl c B:Nat}
theorem bp.afU{l:List np}(wy:gl < w.heap.size)(hc:∀k t,l[k]?=some t->w.cell? ⟨gl,k*4,none⟩=some (.int .u8 t.w.k)/\w.cell? ⟨gl,k*4+1,none⟩=some (.string ⟨t.w.s.toArray⟩)/\w.cell? ⟨gl,k*4+2,none⟩=some (.int .i64 t.w.n)/\w.cell? ⟨gl,k*4+3,none⟩=some (.int .i64 t.p))
  (he:je (l.map (·.w))) (hlen:l.length<=4097) (hwd:∀t∈l,YH t.w) (hE:Env B w):
  (⟨w.heap.size,gl,c,l⟩:bp).fU (w.alloc (.cells #[.slice (some ⟨gl,0,none⟩) l.length c,.int .i64 0,.bool false,.bool false] 79)) (l.map (·.w)) false false:=by
 have hb:=av.new w 79 #[.slice (some ⟨gl,0,none⟩) l.length c,.int .i64 0,.bool false,.bool false];refine⟨?_,wy,?_,⟨suffix_refl _,he⟩,?_,λ t ht=>(hwd t ht).1,B,hE.size,hE.later (aa w _)⟩
 ·have e:(⟨w.heap.size,gl,c,l⟩:bp).wz (l.map (·.w)) false false= #[.slice (some ⟨gl,0,none⟩) l.length c,.int .i64 0,.bool false,.bool false]:=by simp[bp.wz,bp.n]
  rw[e];exact hb
 ·intro k t hk;have c:=λ o=>World.cell?_alloc_lt w (.cells #[.slice (some ⟨gl,0,none⟩) l.length c,.int .i64 0,.bool false,.bool false] 79) ⟨gl,o,none⟩ wy
  obtain⟨h1,h2,h3,h4⟩:=hc k t hk;exact Zdk
 ·show l.length<=5000;omega
theorem bp.fU.afV(h:ρ.fU w l lg dp)(cs:Array Value)(h1:ρ.g≠b)(h2:ρ.gl≠b)(hE:∃B,B<=ρ.g/\Env B (w.setRow b cs)):ρ.fU (w.setRow b cs) l lg dp:=
 ⟨h.blk.gU h1 cs,h.lt,λ k t hk=>by
   have c:=cell_of_heap (setRow_other w b ρ.gl cs h2)
   obtain⟨h1,h2,h3,h4⟩:=h.cell k t hk
   exact⟨(c _).trans h1,(c _).trans h2,(c _).trans h3,(c _).trans h4⟩,h.of,h.small,h.AL,hE⟩
variable{s:ByteArray}
theorem aaO{l:List np}(h:lY s.data.toList=.ok l) (hE:kX w)(hs:s.size<=4294967280):
  Calls Tryz.prog 25 #[.string s] w λ e w'=>∃A c,e=.returned (.tuple #[.slice A l.length c,.int .i64 0,.int .i64 0])/\CB w' w.heap.size (.slice A l.length c) l/\Below w.heap.size w w':=by refine(Qt s w hE hs).mono ?_;exact ZeM
theorem D5{p x:Nat}(h:lY s.data.toList=.error (p,x)) (hE:kX w)(hs:s.size<=4294967280):
  Calls Tryz.prog 25 #[.string s] w λ e w'=>e=.returned (.tuple #[.slice none 0 0,.int .i64 p,.int .i64 x])/\Below w.heap.size w w':=by refine(Qt s w hE hs).mono ?_;intro e w' hp;unfold lG at hp;rw[h] at hp;exact hp
end Go.Proofs.YtehhdlgjfdnafaaGreatDoor
