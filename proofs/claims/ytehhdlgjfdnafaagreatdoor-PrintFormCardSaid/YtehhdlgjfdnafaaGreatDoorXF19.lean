/- Parts of the proof. -/
import Derived.Test.YtehhdlgjfdnafaaGreatDoorXF11
namespace Go.Proofs.YtehhdlgjfdnafaaGreatDoor
variable{p:Prop}
set_option maxHeartbeats 90000000
set_option maxRecDepth 100000
open Go.Lib (hid)
open Go.ChangeShapes Go.WideShapes Go.ChangeAt Go.RowKit List
set_option linter.unusedVariables false
set_option linter.unusedSimpArgs false
def orC (y:Ex×Bool):List Value:=aU y.1++ [.bool y.2]
def oz (B:Nat)(v:Value)(w:World):Nat->Prop:=λ b=>B<=b/\b < w.heap.size/\some b≠v.ownBlock
variable{B:Nat}{v:Value}{w w':World}
theorem pz{g:Nat}  (h:w.grownBy w' (some g))(hg:g < B):∀b,oz B v w b->(∀o,w'.cell? ⟨b,o,none⟩=w.cell? ⟨b,o,none⟩)/\oz B v w' b:=λ b hb=>
 ⟨cell_of_heap (h.block b hb.2.1 (λ e=>by injection e with e;have:=hb.1;omega)),hb.1,Nat.lt_of_lt_of_le hb.2.1 h.size,hb.2.2⟩
theorem fP(h:Below w.heap.size w w'):∀b,oz B v w b->(∀o,w'.cell? ⟨b,o,none⟩=w.cell? ⟨b,o,none⟩)/\oz B v w' b:=λ b hb=>
 ⟨cell_of_heap (h.block b hb.2.1),hb.1,Nat.lt_of_lt_of_le hb.2.1 h.size,hb.2.2⟩
variable{v':Value}
theorem uh(h:w.grownBy w' v.ownBlock)(hv:v'.ownBlock=v.ownBlock\/v'.ownBlock=some w.heap.size):∀b,oz B v w b->(∀o,w'.cell? ⟨b,o,none⟩=w.cell? ⟨b,o,none⟩)/\oz B v' w' b:=λ b hb=>
 ⟨cell_of_heap (h.block b hb.2.1 hb.2.2),hb.1,Nat.lt_of_lt_of_le hb.2.1 h.size,λ e=>by
   rcases hv with hv | hv
   ·exact hb.2.2 (e.trans hv)
   ·rw[hv] at e;injection e with e;have:=hb.2.1;omega⟩
variable{B':Nat}
theorem DC(hB:B'<=B)(hv:∀g,v.ownBlock=some g->g < B):∀b,eI B w b->(∀o,w.cell? ⟨b,o,none⟩=w.cell? ⟨b,o,none⟩)/\oz B' v w b:=λ b hb=>
 ⟨λ _=>rfl,Nat.le_trans hB hb.1,hb.2,λ e=>by have:=hv b e.symm;have:=hb.1;omega⟩
theorem DD(hB:B'<=B):∀b,oz B v w b->(∀o,w.cell? ⟨b,o,none⟩=w.cell? ⟨b,o,none⟩)/\eI B' w b:=λ b hb=>⟨λ _=>rfl,Nat.le_trans hB hb.1,hb.2.1⟩
structure jK {α:Type} (E:El α) (T:TypeId) (w:World) (B:Nat) (v:Value) (l:List α):Prop where
 has:∃ys:List E.β,cT E.f T E.size w B v ys/\iK (E.rel w (oz B v w)) l ys
section
variable {α:Type} {E:El α} {T:TypeId} {w w':World} {B g:Nat} {v:Value} {l:List α}
theorem jK.later (h:jK E T w B v l)(hb:Below w.heap.size w w'):jK E T w' B v l:=by obtain⟨ys,h1,h2⟩:=h.has;exact⟨ys,h1.later hb,h2.imp λ x y=>E.keep (fP hb)⟩
theorem jK.Ju (h:jK E T w B v l) {G:Nat}(hG:v.ownBlock=some G):B<=G/\G < w.heap.size:=by obtain⟨ys,h1,h2⟩:=h.has;exact⟨(h1.lt hG).2.1,(h1.lt hG).1⟩
theorem jK.grown (h:jK E T w B v l)(hb:w.grownBy w' (some g))(hg:g < B):jK E T w' B v l:=by obtain⟨ys,h1,h2⟩:=h.has;exact⟨ys,h1.grown hb (λ e=>by have:=(h1.lt e).2.1;omega),h2.imp λ x y=>E.keep (pz hb hg)⟩
theorem jK.sl (h:jK E T w B v l) {B':Nat}(hB:B'<=B):∃y:Sl,v=fN y/\y.n=l.length/\E.sl w (eI B' w) y l:=by obtain⟨ys,h1,h2⟩:=h.has;obtain⟨A,c,hv,hr⟩:=OZ E.hf h1 (S:=eI B' w) (λ g h3 h4=>⟨by omega,h4⟩);refine⟨⟨A,l.length,c⟩,?_,rfl,rfl,ys,hr,h2.imp λ x y=>E.keep (DD hB)⟩;rw[hv,h2.len];rfl
theorem jK.nil (E:El α)(T:TypeId)(w:World)(B:Nat):jK E T w B (.slice none 0 0) []:=⟨[],cT.nil,.nil⟩
end
theorem zW:(Tryz.prog.info? 51).map (λ i=>(i.zero,i.size,i.bytes))=some (some (.agg #[.int .u8 0,.int .u8 0,.int .i64 0,.string ⟨#[]⟩,.string ⟨#[]⟩,.int .i64 0,.slice none 0 0,.string ⟨#[]⟩]),8,104):=by kernel_rfl
variable{α:Type}
def adM(E:El α)(lng:α->Bool)(ρ:bw)(p:Ps α)(σ:eu)(big:Bool)(y:E.β)(w w':World):Prop:=∃x:α,E.rel w' (eI w.heap.size w') x y/\iJ ρ w w' (fh p σ) (big || lng x)/\rh p σ x
variable{E:El α}{T:TypeId}{lng:α->Bool}{ρ:bw}{σ:eu}{big:Bool}{w0 wr w1 fc w2 W:World}{acc:List α}
theorem PA{p:Ps α}       {y:E.β}(hB:w0.heap.size<=B)(hg:ρ.g < w0.heap.size)(hR:jK E T wr B v acc)(hBr:B<=wr.heap.size)(hD:iJ ρ w0 wr σ big)(wb:af wr w1)(hp:adM E lng ρ p σ big y w1 fc)(hl2:af fc w2)(mm:w2.grownBy W v.ownBlock)
  (ys:List E.β) (pN:cT E.f T E.size W B v' (ys++ [y])) (hys:iK (E.rel wr (oz B v wr)) acc ys) (hv:v'.ownBlock=v.ownBlock\/v'.ownBlock=some w2.heap.size):
  ∃x:α,jK E T W B v' (acc++ [x])/\iJ ρ w0 W (fh p σ) (big || lng x)/\rh p σ x:=by
 obtain⟨x,hx,hd,hgv⟩:=hp;have hgB:ρ.g < B:=by omega
 have own:∀G,v.ownBlock=some G->B<=G/\G < wr.heap.size:=λ G hG=>hR.Ju hG
 refine⟨x,⟨ys++ [y],pN,iK.append ?_ (.one ?_)⟩,?_,hgv⟩
 ·exact hys.imp λ a b hab=>E.keep (uh mm hv) (E.keep (fP hl2) (E.keep (pz hd.grown hgB) (E.keep (fP wb) hab)))
 ·refine E.keep (uh mm hv) (E.keep (DC (B:=w1.heap.size) (B':=B) (Nat.le_trans hBr wb.size) λ G hG=>?_) (E.keep (eJ hl2) hx));exact Nat.lt_of_lt_of_le (own G hG).2 wb.size
 ·exact(((hD.later wb).trans hd).later hl2).own hg mm λ G hG=>by have:=(own G hG).1;omega
variable{q:Nat}
theorem ui(hq:q < B)(i:Nat)(u:Value):∀b,oz B v w b->(∀o,(w.setCell ⟨q,i,none⟩ u).cell? ⟨b,o,none⟩=w.cell? ⟨b,o,none⟩)/\oz B v (w.setCell ⟨q,i,none⟩ u) b:=λ b hb=>
 ⟨cell_of_heap (Below.heap_setCell w ⟨q,i,none⟩ u b Tbc),hb.1,by simpa [World.setCell] using hb.2.1,hb.2.2⟩
variable{l:List α}
theorem jK.far(h:jK E T w B v l)(hq:q < B)(i:Nat)(u:Value):jK E T (w.setCell ⟨q,i,none⟩ u) B v l:=by
 have FO:=λ G hG=>(h.Ju (G:=G) hG).1
 obtain⟨ys,h1,h2⟩:=h.has;exact⟨ys,h1.keep λ g hg=>Below.heap_setCell w ⟨q,i,none⟩ u g (by have:=FO g hg;simp;omega),h2.imp λ x y=>E.keep (ui hq i u)⟩
variable{S:Nat->Prop}{G:Nat}{y:Ex}
theorem YL{x:Tr} (h:av w G 36 (aU y).toArray)(hS:S G)(hx:x.at_ w S y):fy.sl w S ⟨some ⟨G,0,none⟩,1,1⟩ [x]:=
 ⟨rfl,[y],CP (f:=aU) tP (by show av w G _ (aU y++ []).toArray;rw[append_nil];exact h) hS,.one hx⟩
def NA (y:Ex×ByteArray):List Value:=aU y.1++ [.string y.2]
def itV (y:Ex×ByteArray):Value:=.agg (NA y).toArray
variable{a b c d e f g:Value}
theorem jH{i:Value}(h:av w q T #[a,b,c,d,e,f,g,i]):
  w.cell? ⟨q,0,none⟩=some a/\w.cell? ⟨q,1,none⟩=some b/\w.cell? ⟨q,2,none⟩=some c/\w.cell? ⟨q,3,none⟩=some d/\w.cell? ⟨q,4,none⟩=some e/\w.cell? ⟨q,5,none⟩=some f/\w.cell? ⟨q,6,none⟩=some g/\w.cell? ⟨q,7,none⟩=some i:=
 ⟨h.cell 0,h.cell 1,h.cell 2,h.cell 3,h.cell 4,h.cell 5,h.cell 6,h.cell 7⟩
variable{cs:Array Value}
theorem sj(h:av w q T cs):
  w.frozen? ⟨q,0,none⟩=false/\w.frozen? ⟨q,1,none⟩=false/\w.frozen? ⟨q,2,none⟩=false/\w.frozen? ⟨q,3,none⟩=false/\w.frozen? ⟨q,4,none⟩=false/\w.frozen? ⟨q,5,none⟩=false/\w.frozen? ⟨q,6,none⟩=false/\w.frozen? ⟨q,7,none⟩=false:=
 ⟨h.frozen 0,h.frozen 1,h.frozen 2,h.frozen 3,h.frozen 4,h.frozen 5,h.frozen 6,h.frozen 7⟩
def Jo (w:World)(q:Nat)(y:Ex)(v:Value):World:=(gX w q y).setCell ⟨q,7,none⟩ v
theorem iJ.Jo(h:iJ ρ W w σ big)(hW:ρ.g < W.heap.size)(hq:W.heap.size<=q)(y:Ex)(v:Value):iJ ρ W (Jo w q y v) σ big:=(h.gX hW hq y).far hW hq 7 v
variable{t:Tr}
theorem Tr.at_.Jo(h:t.at_ w (eI B w) y)(hq:q < B)(z:Ex)(v:Value):t.at_ (Jo w q z v) (eI B (Go.Proofs.YtehhdlgjfdnafaaGreatDoor.Jo w q z v)) y:=(h.gX hq z).set hq 7 v
theorem YM{i:Value}(h:av w q T #[a,b,c,d,e,f,g,i])(y:Ex)(v:Value):av (Jo w q y v) q T (aU y++ [v]).toArray:=by have:=((((((((h.cJ 0 (.int .u8 y.op)).cJ 1 (.int .u8 y.v.k)).cJ 2 (.int .i64 y.v.n)).cJ 3 (.string y.v.s)).cJ 4 (.string y.name)).cJ 5 (.int .i64 y.width)).cJ 6 (.slice y.A y.n y.c)).cJ 7 v);exact Zdj
def itZ:Obj:=.cells #[.int .u8 0,.int .u8 0,.int .i64 0,.string ⟨#[]⟩,.string ⟨#[]⟩,.int .i64 0,.slice none 0 0,.string ⟨#[]⟩] 51
theorem sr (m:gT):(cd m).toArray.size=28:=rfl
theorem PB (m:gT):(cd m).toArray.all (·.oneCell')=true:=by simp[cd,kL,fZ,fN,Value.oneCell']
theorem su:(Tryz.prog.info? 34).map (·.size)=some 28:=by kernel_rfl
theorem aqU (b o j:Nat):(Addr.add ⟨b,o,none⟩ j)=⟨b,o+j,none⟩:=by unfold Addr.add;split <;> simp_all
variable{size:Nat}
theorem LP{f:α->List Value} (hf:∀x,(f x).length=size)(h0:0 < size):∀(l:List α) (j:Nat) (u:Value),(l.flatMap f)[j]?=some u->∃k r x,j=k*size+r/\l[k]?=some x/\(f x)[r]?=some u
 | [],j,u,h=>by simp at h
 | y::l,j,u,h=>by
   rw[flatMap_cons] at h;by_cases hj:j < size
   ·rw[getElem?_append_left (by rw[hf];exact hj)] at h;exact⟨0,j,y,by omega,rfl,h⟩
   ·rw[getElem?_append_right (by rw[hf];omega),hf] at h;obtain⟨k,r,x,h1,h2,h3⟩:=LP hf h0 l _ u h;exact⟨k+1,r,x,by rw[Nat.succ_mul];omega,by simpa using h2,h3⟩
theorem adT:∀ys:List Ex,(ys.flatMap aU).length=ys.length*7
 | []=>rfl
 | y::ys=>by rw[flatMap_cons,length_append,adT ys,tP,length_cons];omega
variable{A:Option Addr}{ys:List Ex}
theorem Zy(h:RL aU 7 w S A ys) (hS:∀b,S b->b < B):Reads w B 7 A ys.length (ys.flatMap aU):=by
 refine⟨adT ys,λ hn=>?_⟩;rcases h with h |⟨b,off,hA,hb,hc⟩
 ·subst h;simp at hn
 ·refine⟨⟨b,off,none⟩,hA,hS b hb,λ j u hu=>?_⟩;obtain⟨k,r,x,rfl,h2,h3⟩:=LP tP Taa ys j u hu;rw[aqU,<- Nat.add_assoc];exact hc k x r u h2 h3
theorem Zz:∀(ys:List Ex),∀u∈ys.flatMap aU,u.oneCell'=true:=by intro ys u hu;obtain⟨y,_,hu⟩:=List.mem_flatMap.1 hu;simp[aU] at hu;exact Zhc
structure BK (w:World) (S:Nat->Prop) (v:Value) (wr:World) (acc:List Tr):Prop where
 has:∃ys:List Ex,cT aU 36 7 wr w.heap.size v ys/\iK (λ t y=>Tr.at_ w S t y) acc ys
 below:Below w.heap.size w wr
section
variable {w wr wr':World} {S:Nat->Prop} {v v':Value} {acc l:List Tr} {B:Nat}
theorem BK.start (w:World)(S:Nat->Prop):BK w S (.slice none 0 0) w []:=⟨⟨[],cT.nil,.nil⟩,Below.refl _ _⟩
theorem BK.later (h:BK w S v wr acc)(hb:Below wr.heap.size wr wr'):BK w S v wr' acc:=by obtain⟨ys,h1,h2⟩:=h.has;exact⟨⟨ys,h1.later hb,h2⟩,af.then h.below hb⟩
theorem BK.len (h:BK w S v wr acc):∃A c,v=.slice A acc.length c:=by obtain⟨ys,h1,h2⟩:=h.has;obtain⟨A,c,hv,_⟩:=h1.reads;exact⟨A,c,by rw[hv,h2.len]⟩
theorem BK.far (h:BK w S v wr acc)(hg:wr.grownBy wr' v.ownBlock) {q:Nat} {t:TypeId} {cs:Array Value}(hq:av wr q t cs)(ht:t≠36):av wr' q t cs:=by obtain⟨ys,h1,h2⟩:=h.has;exact hq.KA h1 ht hg
theorem BK.sl (h:BK w S v wr acc)(hS:∀b,S b->b < w.heap.size):∃y:Sl,v=fN y/\y.n=acc.length/\fy.sl wr (eI 0 wr) y acc:=by obtain⟨ys,h1,h2⟩:=h.has;obtain⟨A,c,hv,hr⟩:=OZ fy.hf h1 (S:=eI 0 wr) (λ g h3 h4=>⟨by omega,h4⟩);have hs:=h.below.size;have e:v=.slice A (List.length (α:=Ex) ys) c:=hv;refine⟨⟨A,acc.length,c⟩,by rw[e,h2.len];rfl,rfl,rfl,ys,hr,h2.imp λ t y ht=>?_⟩;exact Tr.at_.keep (λ b hb=>⟨cell_of_heap (h.below.block b (hS b hb)),Nat.zero_le _,Nat.lt_of_lt_of_le (hS b hb) hs⟩) _ _ ht
def ZA (w:World)(S:Nat->Prop)(v:Value)(wr:World)(acc l:List Tr)(v':Value)(w':World):Prop:=BK w S v' w' (acc++l)/\wr.grownBy w' v.ownBlock
theorem kF (t ty:TypeId)(ht:Tryz.prog.underlying t=some (.slice 36))(h:BK w S v wr acc) {A:Option Addr} {n c:Nat}(hl:fy.sl w S ⟨A,n,c⟩ l)(hS:∀b,S b->b < w.heap.size)(hlen:acc.length+l.length<=1000000):
  ∃v' w',(Builtin.append_ #[t,t] ty #[v,.slice A n c]).run Tryz.prog wr=.ok v' w'/\ZA w S v wr acc l v' w':=by
 obtain⟨hn,(zs:List Ex),hr,ha⟩:=hl;have ha:iK (λ t y=>Tr.at_ w S t y) l zs:=ha;replace hn:n=l.length:=hn;obtain⟨ys,h1,h2⟩:=h.has;have hr2:=Zy hr hS;have hr3:=(hr2.below h.below).more h.below.size;obtain⟨i0,nR,hz0,hz1,hz2⟩:=info_parts Jn;have hzl:=ha.len;have hyl:=h2.len;obtain⟨v',w',hrun,h3,h4,h5⟩:=oW (P:=Tryz.prog) wr w.heap.size t ty 36 i0 _ 7 88 ht nR hz0 hz1 hz2 rfl Taa v ys.length (ys.flatMap aU) h1 wr.heap.size A zs.length c (zs.flatMap aU) hr3 (Zz _) TaH Taa h.below.size;rw[hzl,<- hn] at hrun;refine⟨v',w',hrun,⟨⟨ys++zs,?_,iK.append h2 ha⟩,?_⟩,h4⟩
 ·unfold cT;rw[length_append,flatMap_append];exact h3
 ·exact h.below.trans (oG h1 h4 h.below.size)
theorem qK (t ty:TypeId)(ht:Tryz.prog.underlying t=some (.slice 36))(h:BK w S v wr acc) {g:Nat} {y:Ex} {x:Tr}(hg:av wr g 36 (aU y).toArray)(hx:Tr.at_ w S x y)(hlen:acc.length+1<=1000000):
  ∃v' w',(Builtin.append_ #[t,t] ty #[v,.slice (some ⟨g,0,none⟩) 1 1]).run Tryz.prog wr=.ok v' w'/\ZA w S v wr acc [x] v' w':=by obtain⟨ys,h1,h2⟩:=h.has;have hyl:=h2.len;obtain⟨v',w',hr,ho,ha⟩:=lT (P:=Tryz.prog) (w:=wr) t ty _ 88 ht Jn rfl Taa tP (y:=y) (by intro u hu;exact Zz [y] u (by simpa using hu)) h1 g hg Taa Taa h.below.size;exact⟨v',w',hr,⟨⟨ys++ [y],ho,iK.append h2 (.one hx)⟩,h.below.trans (oG h1 ha.grown h.below.size)⟩,ha.grown⟩
theorem ziu.KcS(h:p:=by exact h v' w' hp):p:=h
theorem FA {o:Oper} {a:Act} {K:Act->World->Prop} {Q:Exit->Act->World->Prop}(s x:Operand)(t:TypeId)
  (ho:o.op=.call { callee:=.builtin .append,args:= #[s,x],argTypes:= #[t,t] }) {P:Value->World->Prop} {xv:Value} (hs:a.eval s=v) (hx:a.eval x=xv)
  (hr:∃v' w',(Builtin.append_ #[t,t] o.type #[v,xv]).run Tryz.prog wr=.ok v' w'/\P v' w') (h:∀v' w',P v' w'->K (a.put o.dst v') w'):o.wp Tryz.prog a wr K Q:=by obtain⟨v',w',hrun,hp⟩:=hr;open ziu in exact Zhh
theorem gS {ops:Array Oper} {rest:List Oper} {o:Oper} {a:Act} {Q:Exit->Act->World->Prop}(hgd:o.guard=none)(s x:Operand)(t:TypeId)
  (ho:o.op=.call { callee:=.builtin .append,args:= #[s,x],argTypes:= #[t,t] }) {P:Value->World->Prop} {xv:Value} (hs:a.eval s=v) (hx:a.eval x=xv)
  (hr:∃v' w',(Builtin.append_ #[t,t] o.type #[v,xv]).run Tryz.prog wr=.ok v' w'/\P v' w') (h:∀v' w',P v' w'->wpList Tryz.prog ops Q rest (a.put o.dst v') w'):wpList Tryz.prog ops Q (o::rest) a wr:=
 wpList_plain hgd λ _ hK=>FA s x t ho hs hx hr λ v' w' hp=>hK _ _ (h v' w' hp)
end
variable{β:Type}{R:α->β->Prop}{m:List β}
theorem uk(h:iK R l m):∀ {i:Nat} {x:α} {y:β},l[i]?=some x->m[i]?=some y->R x y:=by
 induction h with
 | nil=>intro i x y hx;simp at hx
 | cons h1 h2 ih=>
   intro i x y hx hy
   match i with
   | 0=>simp at hx hy;subst hx hy;exact h1
   | i+1=>exact ih TaY (by simpa using hy)
variable{i:Nat}{r:List α}
theorem GL{l:List (List α)}  (h:l[i]?=some r):(l.take (i+1)).flatten=(l.take i).flatten++r:=by rw[take_add_one,h];simp
theorem aaV{l:List (List α)}  (h:l[i]?=some r):(l.take i).flatten.length+r.length<=l.flatten.length:=by
 have e:=GL h;have h2:(l.take (i+1)).flatten++(l.drop (i+1)).flatten=l.flatten:=by rw[<- flatten_append,take_append_drop]
 rw[<- h2,e];simp only[length_append];omega
theorem DF{x:α}(f:α->β)(h:l[i]?=some x):(l.take (i+1)).map f=(l.take i).map f++ [f x]:=by rw[take_add_one,h];simp
def exJ (w:World)(S:Nat->Prop)(q:Nat)(cs:Array Value)(v0:Value)(acc l1 l2 l3:List Tr):List Value->World->Prop
 | [],wr=>BK w S v0 wr acc/\av wr q 28 cs
 | [a],wr=>BK w S a wr (acc++l1)/\av wr q 28 cs
 | [_,b],wr=>BK w S b wr (acc++l1++l2)/\av wr q 28 cs
 | [_,_,c],wr=>BK w S c wr (acc++l1++l2++l3)/\av wr q 28 cs
 | _,_=>False
theorem ZG (w:World)(S:Nat->Prop)(q:Nat)(cs:Array Value)(v0:Value)(acc l1 l2 l3:List Tr):∀vs wr,exJ w S q cs v0 acc l1 l2 l3 vs wr->exJ w S q cs v0 acc l1 l2 l3 vs wr.drew
 | [],wr,h=>⟨h.1.later (af.drew wr),h.2.drew⟩
 | [a],wr,h=>⟨h.1.later (af.drew wr),h.2.drew⟩
 | [_,b],wr,h=>⟨h.1.later (af.drew wr),h.2.drew⟩
 | [_,_,c],wr,h=>⟨h.1.later (af.drew wr),h.2.drew⟩
 | _::_::_::_::_,wr,h=>h.elim
variable{u1 u2 u3:Value}
theorem UQ(w:World)(S:Nat->Prop)(q:Nat)(cs:Array Value)(v0:Value)(acc l1 l2 l3:List Tr) (h1:cs[3]?=some u1)(h2:cs[4]?=some u2)(h3:cs[5]?=some u3):∀vs wr,exJ w S q cs v0 acc l1 l2 l3 vs wr->wr.cell? ⟨q,3,none⟩=some u1/\wr.cell? ⟨q,4,none⟩=some u2/\wr.cell? ⟨q,5,none⟩=some u3:=by
 intro vs wr h
 have hb:av wr q 28 cs:=by
  match vs,h with
  | [],h=>exact h.2
  | [a],h=>exact h.2
  | [_,b],h=>exact h.2
  | [_,_,c],h=>exact h.2
  | _::_::_::_::_,h=>exact h.elim
 exact⟨(hb.cell 3).trans h1,(hb.cell 4).trans h2,(hb.cell 5).trans h3⟩
theorem zgq.KbX(h:p:=by
 go_loopw [3,8] (λ v iv wr=>∃(i:Nat),i<=d.query.order.length/\iv=.int .i64 i/\BK w S v wr (PF++(d.query.order.take i).map (λ x=>x.1))/\av wr q 28 #[.slice y.query.items.A y.query.items.n y.query.items.c,.string y.query.aP,.bool y.query.only,.slice y.query.aS.A y.query.aS.n y.query.aS.c,.slice y.query.group.A y.query.group.n y.query.group.c,.slice y.query.having.A y.query.having.n y.query.having.c,.slice y.query.order.A y.query.order.n y.query.order.c,.slice y.query.aN.A y.query.aN.n y.query.aN.c]) (λ _ iv _=>d.query.order.length - (intOf iv).toNat);case atStart=>exact⟨0,Nat.zero_le _,rfl,by rw[take_zero,map_nil,append_nil];exact HX7.out,UX.out⟩
 case round=>
  obtain⟨i,hi,rfl,hX,Bu⟩:=hrel;clear HX7 UX;have UR:=jx.out.query.order.1;obtain⟨(zs:List (Ex×Bool)),wq,JA⟩:=jx.out.query.order.2;have ki:(zs:List (Ex×Bool)).length=d.query.order.length:=JA.len;have xl:wr.cell? ⟨q,6,none⟩=some (.slice y.query.order.A y.query.order.n y.query.order.c):=Bu.cell 6;have tB:=hid hX;have nI:=hid Bu;have hwl:=Bu.lt;clear hX Bu;rw[UR] at xl;have hls:d.query.order.length<=1000000:=by have:=HN.out;omega
  by_cases hlt:i < d.query.order.length
  ·obtain⟨r,hr⟩:∃r,d.query.order[i]?=some r:=⟨_,getElem?_eq_getElem hlt⟩;obtain⟨z,hz⟩:∃z,zs[i]?=some z:=⟨_,getElem?_eq_getElem Ta5⟩;have ZH:=(uk JA hr hz).1;have Y1:=hid (DF (λ x=>x.1) hr);rcases wq with h0 |⟨b,off,mg,kM,hc⟩
   ·have h0:zs=([]:List (Ex×Bool)):=h0;exact ZfA
   have hcell:=λ j u hu=>(tB.out.below.cell (p:=⟨b,off+i*8+j,none⟩) (HS.out b kM)).trans (hc i z j u hz hu)
   have zZ:(PF++(d.query.order.take i).map (λ x=>x.1)).length<=PF.length+i:=by simp;omega
   obtain⟨⟨ZI,zv,um,zw,zA,zl,zc⟩,zn⟩:=z;have k0:=hcell 0 _ rfl;have k1:=hcell 1 _ rfl;have k2:=hcell 2 _ rfl;have k3:=hcell 3 _ rfl;have k4:=hcell 4 _ rfl;have k5:=hcell 5 _ rfl;have k6:=hcell 6 _ rfl;simp only[Nat.add_zero] at k0;have HZR:=hid ZH;have HAL:=hid zZ;clear zZ ZH hcell hc hr hz;generalize pP:PF++(d.query.order.take i).map (λ x=>x.1)=acc at*;have UT:=hid pP;clear pP;obtain⟨A3,c3,hv3⟩:=tB.out.len;subst hv3;have LY:=tB.out.later (aa wr (.cells (aU ⟨ZI,zv,um,zw,zA,zl,zc⟩).toArray 36));have vD:=hid (λ(ty:TypeId)=>qK 24 ty Tryz.underlying24 LY (av.new wr 36 (aU ⟨ZI,zv,um,zw,zA,zl,zc⟩).toArray) HZR.out (by have:=HAL.out;have:=HN.out;have:=UU.out;have:=ZL.out;have:=aaW.out;have:=arc.out;omega));have HBN:=hid (nI.out.alloc (.cells (aU ⟨ZI,zv,um,zw,zA,zl,zc⟩).toArray 36));have rN:=hid LY;rw[mg] at xl;clear mg UR JA ki LY;go_wp2_with (first
    |(at_builtin
      refine gS rfl (.tmp 78) (.tmp 85) 24 rfl rfl rfl (vD.out _) ?_
      rintro v' w9 ⟨FB,rq⟩
      have Y2:=hid FB
      have HB':=hid (rN.out.far rq HBN.out Tab)
      clear FB rq))
   exact ZbT
  obtain rfl:i=d.query.order.length:=by omega
  have ZJ:=tB.out;rw[take_length] at ZJ;clear tB;have zZ:(PF++d.query.order.map (λ x=>x.1)).length=PF.length+d.query.order.length:=by simp
  have tB:=hid ZJ;clear JA wq ZJ;obtain⟨A3,c3,hv3⟩:=tB.out.len;subst hv3;have ard:=hid (show PF++d.query.order.map (λ x=>x.1)=d.exprs by rw[<- alU.out,<- alT.out,<- alS.out,<- alR.out,<- alO.out];simp[St.exprs,Qu.exprs]);go_wp2_with fail;go_ret;obtain⟨sl,h1,h2,h3⟩:=tB.out.sl HS.out;rw[ard.out] at h2 h3;exact⟨sl,congrArg Ending.returned h1,h2,h3,tB.out.below⟩):p:=h
theorem LW (w:World)(d:St)(y:gT)(S:Nat->Prop)(hS:∀b,S b->b < w.heap.size)(h:d.at_ w S y)(hlen:d.exprs.length<=1000000)(hr0:d.rows.length<=1048576):
  Calls Tryz.prog 17 #[mK y] w λ e w'=>∃sl:Sl,e=.returned (fN sl)/\sl.n=d.exprs.length/\fy.sl w' (eI 0 w') sl d.exprs/\Below w.heap.size w w':=by
 have jx:=hid h;have HS:=hid hS;have hn:(d.rows.flatten.length+d.bF.length+d.aS.length)+(d.query.items.length+d.query.aS.length+d.query.group.length+d.query.having.length+d.query.order.length)<=1000000:=by simp only[St.exprs,Qu.exprs,length_append,length_map] at hlen;omega
 have HN:=hid hn;have hb:=aa w (.cells (cd y).toArray 34);have hB:=av.new w 34 (cd y).toArray;have HX:=hid ((BK.start w S).later hb);have hst:=sr y;unfold mK;clear h hS hn hlen;go_enter Tryz.func17,Tryz.ntmps17;go_wp2_with fail;generalize w.alloc _=W1 at*;have hs1:w.heap.size+1<=W1.heap.size:=hB.lt;clear hst;go_loopw [3,4] (λ v iv wr=>∃(i:Nat),i<=d.rows.length/\iv=.int .i64 i/\BK w S v wr (d.rows.take i).flatten/\av wr w.heap.size 34 (cd y).toArray) (λ _ iv _=>d.rows.length - (intOf iv).toNat);case atStart=>exact⟨0,Nat.zero_le _,rfl,HX.out,hB⟩
 case round=>
  obtain⟨i,hi,rfl,hX,Bu⟩:=hrel;have UR:=jx.out.rows.1;obtain⟨(sls:List Sl),wq,JA⟩:=jx.out.rows.2;have ki:(sls:List Sl).length=d.rows.length:=JA.len;have NH:wr.cell? ⟨w.heap.size,19,none⟩=some (.slice y.rows.A y.rows.n y.rows.c):=Bu.cell 19;have tB:=hid hX;have nI:=hid Bu;have hwl:=Bu.lt;clear hX Bu HX hB;rw[UR] at NH;by_cases hlt:i < d.rows.length
  ·obtain⟨r,hr⟩:∃r,d.rows[i]?=some r:=⟨_,getElem?_eq_getElem hlt⟩;obtain⟨z,hz⟩:∃z,sls[i]?=some z:=⟨_,getElem?_eq_getElem Ta5⟩;have ZH:fy.lies w S z.A z.n r:=uk JA hr hz;have Xa:=aaV hr;have Y1:=hid (GL hr);rcases wq with h0 |⟨b,off,mg,kM,hc⟩
   ·have h0:sls=([]:List Sl):=h0;exact ZfA
   have hcell:wr.cell? ⟨b,off+i*1+0,none⟩=some (.slice z.A z.n z.c):=(tB.out.below.cell (p:=⟨b,off+i*1+0,none⟩) (HS.out b kM)).trans (hc i z 0 _ hz rfl);simp only[Nat.mul_one,Nat.add_zero] at hcell;have HZR:=hid ZH;have HNX:=hid Xa;have hap:=λ(v:Value) (hX:BK w S v wr (d.rows.take i).flatten) (ty:TypeId)=>kF 24 ty Tryz.underlying24 hX (c:=z.c) HZR.out HS.out (by have:=HNX.out;have:=HN.out;omega)
   have vD:=hid hap;clear Xa;generalize pP:(d.rows.take i).flatten=acc at*;have UT:=hid pP;clear pP;obtain⟨A3,c3,hv3⟩:=tB.out.len;subst hv3;rw[mg] at NH;clear hr hz ZH hc hap UR JA ki;go_wp2_with (first
    |(at_builtin
      refine gS rfl (.tmp 16) (.tmp 21) 24 rfl rfl rfl (vD.out _ tB.out _) ?_
      rintro v' w' ⟨FB,rq⟩
      have Y2:=hid FB
      have HB':=hid (tB.out.far rq nI.out Tab)
      clear FB rq))
   go_roundw;case rel=>exact⟨i+1,hlt,by go_num,by rw[Y1.out];exact Y2.out,HB'.out⟩
   case measure=>exact Zcs
  obtain rfl:i=d.rows.length:=by omega
  have HX1:=hid (show BK w S _ wr d.rows.flatten by have:=tB.out;rw[take_length] at this;exact this);clear tB JA wq;obtain⟨A3,c3,hv3⟩:=HX1.out.len;subst hv3;generalize adV:d.rows.flatten=PD at*;have alO:=hid adV;clear adV;go_wp2_with fail;clear hi hlt NH ki UR;go_loopw [3,5] (λ v iv wr=>∃(i:Nat),i<=d.bF.length/\iv=.int .i64 i/\BK w S v wr (PD++(d.bF.take i).map (λ x=>x.2))/\av wr w.heap.size 34 (cd y).toArray) (λ _ iv _=>d.bF.length - (intOf iv).toNat);case atStart=>exact⟨0,Nat.zero_le _,rfl,by rw[take_zero,map_nil,append_nil];exact HX1.out,nI.out⟩
  case round=>
   obtain⟨i,hi,rfl,hX,Bu⟩:=hrel;clear HX1 nI;have UR:=jx.out.bF.1;obtain⟨(zs:List (ByteArray×Ex)),wq,JA⟩:=jx.out.bF.2;have ki:(zs:List (ByteArray×Ex)).length=d.bF.length:=JA.len;have xl:wr.cell? ⟨w.heap.size,20,none⟩=some (.slice y.bF.A y.bF.n y.bF.c):=Bu.cell 20;have tB:=hid hX;have nI:=hid Bu;have hwl:=Bu.lt;clear hX Bu;rw[UR] at xl;have hls:d.bF.length<=1000000:=by have:=HN.out;omega
   by_cases hlt:i < d.bF.length
   ·obtain⟨r,hr⟩:∃r,d.bF[i]?=some r:=⟨_,getElem?_eq_getElem hlt⟩;obtain⟨z,hz⟩:∃z,zs[i]?=some z:=⟨_,getElem?_eq_getElem Ta5⟩;have ZH:=(uk JA hr hz).2;have Y1:=hid (DF (λ x=>x.2) hr);rcases wq with h0 |⟨b,off,mg,kM,hc⟩
    ·have h0:zs=([]:List (ByteArray×Ex)):=h0;exact ZfA
    have hcell:=λ j u hu=>(tB.out.below.cell (p:=⟨b,off+i*8+j,none⟩) (HS.out b kM)).trans (hc i z j u hz hu)
    have zZ:(PD++(d.bF.take i).map (λ x=>x.2)).length<=PD.length+i:=by simp;omega
    obtain⟨zn,⟨ZI,zv,um,zw,zA,zl,zc⟩⟩:=z;have k0:=hcell 1 _ rfl;have k1:=hcell 2 _ rfl;have k2:=hcell 3 _ rfl;have k3:=hcell 4 _ rfl;have k4:=hcell 5 _ rfl;have k5:=hcell 6 _ rfl;have k6:=hcell 7 _ rfl;have HZR:=hid ZH;have HAL:=hid zZ;clear zZ ZH hcell hc hr hz;generalize pP:PD++(d.bF.take i).map (λ x=>x.2)=acc at*;have UT:=hid pP;clear pP;obtain⟨A3,c3,hv3⟩:=tB.out.len;subst hv3;have LY:=tB.out.later (aa wr (.cells (aU ⟨ZI,zv,um,zw,zA,zl,zc⟩).toArray 36));have vD:=hid (λ(ty:TypeId)=>qK 24 ty Tryz.underlying24 LY (av.new wr 36 (aU ⟨ZI,zv,um,zw,zA,zl,zc⟩).toArray) HZR.out (by have:=HAL.out;have:=HN.out;omega));have HBN:=hid (nI.out.alloc (.cells (aU ⟨ZI,zv,um,zw,zA,zl,zc⟩).toArray 36));have rN:=hid LY;rw[mg] at xl;clear mg UR JA ki LY;go_wp2_with (first
     |(at_builtin
       refine gS rfl (.tmp 30) (.tmp 37) 24 rfl rfl rfl (vD.out _) ?_
       rintro v' w9 ⟨FB,rq⟩
       have Y2:=hid FB
       have HB':=hid (rN.out.far rq HBN.out Tab)
       clear FB rq))
    exact ZbT
   obtain rfl:i=d.bF.length:=by omega
   have ZJ:=tB.out;rw[take_length] at ZJ;clear tB;have zZ:(PD++d.bF.map (λ x=>x.2)).length=PD.length+d.bF.length:=by simp
   have tB:=hid ZJ;clear JA wq ZJ;obtain⟨A3,c3,hv3⟩:=tB.out.len;subst hv3;generalize adW:PD++d.bF.map (λ x=>x.2)=agv at*;have alR:=hid adW;have UU:=hid zZ;have hww:=jx.out.aS;have vD:=hid (λ(ty:TypeId)=>kF 24 ty Tryz.underlying24 tB.out (c:=y.aS.c) hww HS.out (by have:=UU.out;have:=HN.out;omega));have Zg:wr.cell? ⟨w.heap.size,21,none⟩=some (.slice y.aS.A y.aS.n y.aS.c):=nI.out.cell 21;clear adW zZ hww;go_wp2_with (first
    |(at_builtin
      refine gS rfl (.tmp 39) (.tmp 41) 24 rfl rfl rfl (vD.out _) ?_
      rintro v' w9 ⟨FB,rq⟩
      have ZK:=tB.out.far rq nI.out Tab
      obtain⟨A4,c4,hv4⟩:=FB.len
      subst hv4
      have ZL:=hid (show(agv++d.aS).length=agv.length+d.aS.length by simp)
      generalize adX:agv++d.aS=PE at*
      have alS:=hid adX
      have Y2:=hid FB
      have ara:=hid ZK
      have q7:w9.cell? ⟨w.heap.size,7,none⟩=some (.slice y.query.items.A y.query.items.n y.query.items.c):=ZK.cell 7
      have q8:w9.cell? ⟨w.heap.size,8,none⟩=some (.string y.query.aP):=ZK.cell 8
      have q9:w9.cell? ⟨w.heap.size,9,none⟩=some (.bool y.query.only):=ZK.cell 9
      have q10:w9.cell? ⟨w.heap.size,10,none⟩=some (.slice y.query.aS.A y.query.aS.n y.query.aS.c):=ZK.cell 10
      have q11:w9.cell? ⟨w.heap.size,11,none⟩=some (.slice y.query.group.A y.query.group.n y.query.group.c):=ZK.cell 11
      have q12:w9.cell? ⟨w.heap.size,12,none⟩=some (.slice y.query.having.A y.query.having.n y.query.having.c):=ZK.cell 12
      have q13:w9.cell? ⟨w.heap.size,13,none⟩=some (.slice y.query.order.A y.query.order.n y.query.order.c):=ZK.cell 13
      have q14:w9.cell? ⟨w.heap.size,14,none⟩=some (.slice y.query.aN.A y.query.aN.n y.query.aN.c):=ZK.cell 14
      have xh:=ZK.lt
      clear FB rq ZK adX))
   clear Zg vD tB;have HQ:=hid (av.new w9 28 (kL y.query).toArray);have HXQ:=hid (Y2.out.later (aa w9 (.cells (kL y.query).toArray 28)));clear Y2 ara q7 q8 q9 q10 q11 q12 q13 q14 nI;unfold kL fN at HQ HXQ;generalize w9.alloc _=W9 at*;generalize w9.heap.size=q at*;clear xh;go_loopw [3,7] (λ v iv wr=>∃(i:Nat),i<=d.query.items.length/\iv=.int .i64 i/\BK w S v wr (PE++(d.query.items.take i).map (λ x=>x.1))/\av wr q 28 #[.slice y.query.items.A y.query.items.n y.query.items.c,.string y.query.aP,.bool y.query.only,.slice y.query.aS.A y.query.aS.n y.query.aS.c,.slice y.query.group.A y.query.group.n y.query.group.c,.slice y.query.having.A y.query.having.n y.query.having.c,.slice y.query.order.A y.query.order.n y.query.order.c,.slice y.query.aN.A y.query.aN.n y.query.aN.c]) (λ _ iv _=>d.query.items.length - (intOf iv).toNat);case atStart=>exact⟨0,Nat.zero_le _,rfl,by rw[take_zero,map_nil,append_nil];exact HXQ.out,HQ.out⟩
   case round=>
    obtain⟨i,hi,rfl,hX,Bu⟩:=hrel;clear HXQ HQ;have UR:=jx.out.query.items.1;obtain⟨(zs:List (Ex×ByteArray)),wq,JA⟩:=jx.out.query.items.2;have ki:(zs:List (Ex×ByteArray)).length=d.query.items.length:=JA.len;have xl:wr.cell? ⟨q,0,none⟩=some (.slice y.query.items.A y.query.items.n y.query.items.c):=Bu.cell 0;have tB:=hid hX;have nI:=hid Bu;have hwl:=Bu.lt;clear hX Bu;rw[UR] at xl;have hls:d.query.items.length<=1000000:=by have:=HN.out;omega
    by_cases hlt:i < d.query.items.length
    ·obtain⟨r,hr⟩:∃r,d.query.items[i]?=some r:=⟨_,getElem?_eq_getElem hlt⟩;obtain⟨z,hz⟩:∃z,zs[i]?=some z:=⟨_,getElem?_eq_getElem Ta5⟩;have ZH:=(uk JA hr hz).1;have Y1:=hid (DF (λ x=>x.1) hr);rcases wq with h0 |⟨b,off,mg,kM,hc⟩
     ·have h0:zs=([]:List (Ex×ByteArray)):=h0;exact ZfA
     have hcell:=λ j u hu=>(tB.out.below.cell (p:=⟨b,off+i*8+j,none⟩) (HS.out b kM)).trans (hc i z j u hz hu)
     have zZ:(PE++(d.query.items.take i).map (λ x=>x.1)).length<=PE.length+i:=by simp;omega
     obtain⟨⟨ZI,zv,um,zw,zA,zl,zc⟩,zn⟩:=z;have k0:=hcell 0 _ rfl;have k1:=hcell 1 _ rfl;have k2:=hcell 2 _ rfl;have k3:=hcell 3 _ rfl;have k4:=hcell 4 _ rfl;have k5:=hcell 5 _ rfl;have k6:=hcell 6 _ rfl;simp only[Nat.add_zero] at k0;have HZR:=hid ZH;have HAL:=hid zZ;clear zZ ZH hcell hc hr hz;generalize pP:PE++(d.query.items.take i).map (λ x=>x.1)=acc at*;have UT:=hid pP;clear pP;obtain⟨A3,c3,hv3⟩:=tB.out.len;subst hv3;have LY:=tB.out.later (aa wr (.cells (aU ⟨ZI,zv,um,zw,zA,zl,zc⟩).toArray 36));have vD:=hid (λ(ty:TypeId)=>qK 24 ty Tryz.underlying24 LY (av.new wr 36 (aU ⟨ZI,zv,um,zw,zA,zl,zc⟩).toArray) HZR.out (by have:=HAL.out;have:=HN.out;have:=UU.out;have:=ZL.out;omega));have HBN:=hid (nI.out.alloc (.cells (aU ⟨ZI,zv,um,zw,zA,zl,zc⟩).toArray 36));have rN:=hid LY;rw[mg] at xl;clear mg UR JA ki LY;go_wp2_with (first
      |(at_builtin
        refine gS rfl (.tmp 52) (.tmp 59) 24 rfl rfl rfl (vD.out _) ?_
        rintro v' w9 ⟨FB,rq⟩
        have Y2:=hid FB
        have HB':=hid (rN.out.far rq HBN.out Tab)
        clear FB rq))
     exact ZbT
    obtain rfl:i=d.query.items.length:=by omega
    have ZJ:=tB.out;rw[take_length] at ZJ;clear tB;have zZ:(PE++d.query.items.map (λ x=>x.1)).length=PE.length+d.query.items.length:=by simp
    have tB:=hid ZJ;clear JA wq ZJ;obtain⟨A3,c3,hv3⟩:=tB.out.len;subst hv3;have aaW:=hid zZ;clear zZ;generalize adY:PE++d.query.items.map (λ x=>x.1)=UW at*;have alT:=hid adY;clear adY;have x3:=nI.out.cell 3;have x4:=nI.out.cell 4;have x5:=nI.out.cell 5;simp only[Uaa] at x3 x4 x5;go_upto_region 16 with fail;clear hi hlt xl UR hls;have hwa:=jx.out.query.aS;have hga:=jx.out.query.group;have hha:=jx.out.query.having;have HWA:=hid hwa;have HGA:=hid hga;have HHA:=hid hha;clear hwa hga hha x3 x4 x5;refine LV (P:=Tryz.prog) (J:=exJ w S q (#[.slice y.query.items.A y.query.items.n y.query.items.c,.string y.query.aP,.bool y.query.only,.slice y.query.aS.A y.query.aS.n y.query.aS.c,.slice y.query.group.A y.query.group.n y.query.group.c,.slice y.query.having.A y.query.having.n y.query.having.c,.slice y.query.order.A y.query.order.n y.query.order.c,.slice y.query.aN.A y.query.aN.n y.query.aN.c]) (.slice A3 UW.length c3) UW d.query.aS d.query.group d.query.having) (q:=6) (s:=3) (d0:=61) (d1:=62) (d2:=63) (d3:=64) (d4:=65) (d5:=66) (d6:=67) (d7:=68) (d8:=69) (d9:=70) (pq:=.pointer (some ⟨q,0,none⟩)) (v0:=.slice A3 UW.length c3) (p1:=.pointer (some ⟨q,3,none⟩)) (p2:=.pointer (some ⟨q,4,none⟩)) (p3:=.pointer (some ⟨q,5,none⟩)) (s1:=.slice y.query.aS.A y.query.aS.n y.query.aS.c) (s2:=.slice y.query.group.A y.query.group.n y.query.group.c) (s3:=.slice y.query.having.A y.query.having.n y.query.having.c) (A1:=⟨q,3,none⟩) (A2:=⟨q,4,none⟩) (A3:=⟨q,5,none⟩) 24 (ZG _ _ _ _ _ _ _ _ _) ⟨tB.out,nI.out⟩ Tac Tac Tac Tac Tac rfl rfl ?_ ?_ ?_ ?_ (UQ _ _ _ _ _ _ _ _ _ rfl rfl rfl) ?_ ?_ ?_ ?_ ?_ ?_ ?_ ?_ ?_ ?_
    ·exact ZcJ
    ·exact ZcJ
    ·exact ZcJ
    ·exact ZcJ
    ·exact ZcP
    ·exact ZcP
    ·exact ZcP
    ·exact Zgy
    ·exact Zgy
    ·exact Zgy
    ·rintro w5 ⟨hx,hq⟩;obtain⟨v',w',hrun,FB,rq⟩:=kF 24 24 Tryz.underlying24 hx (c:=y.query.aS.c) HWA.out HS.out (by have:=aaW.out;have:=ZL.out;have:=UU.out;have:=HN.out;omega);exact ZfU
    ·rintro a w5 ⟨hx,hq⟩;obtain⟨v',w',hrun,FB,rq⟩:=kF 24 24 Tryz.underlying24 hx (c:=y.query.group.c) HGA.out HS.out TaE;exact ZfU
    ·rintro a b w5 ⟨hx,hq⟩;obtain⟨v',w',hrun,FB,rq⟩:=kF 24 24 Tryz.underlying24 hx (c:=y.query.having.c) HHA.out HS.out TaE;exact ZfU
    rintro va vb vc W7 ⟨hX7,hB7⟩;have HX7:=hid hX7;have UX:=hid hB7;clear hX7 hB7 tB nI HWA HGA HHA;have arc:=hid (show(UW++d.query.aS++d.query.group++d.query.having).length=UW.length+d.query.aS.length+d.query.group.length+d.query.having.length by simp only[length_append]);generalize aea:UW++d.query.aS++d.query.group++d.query.having=PF at*;have alU:=hid aea;clear aea;obtain⟨A8,c8,hv8⟩:=HX7.out.len;subst hv8;open zgq in exact Zef
theorem LZ (w:World)(d:St)(y:gT)(S:Nat->Prop)(hS:∀b,S b->b < w.heap.size)(h:d.at_ w S y)(hlen:d.exprs.length<=100000)(hr0:d.rows.length<=64):
 Calls Tryz.prog 17 #[mK y] w λ e w'=>∃sl:Sl,e=.returned (fN sl)/\sl.n=d.exprs.length/\fy.sl w' (eI 0 w') sl d.exprs/\Below w.heap.size w w':=LW w d y S hS h Taa Taa
def mn (s:ByteArray)(w:World)(e:Ending)(w':World):Prop:=
 match gw s.data.toList with
 | .error (p,x)=>e=.returned (.tuple #[mK {},.int .i64 p,.int .i64 x])/\Below w.heap.size w w'
 | .ok d=>∃y:gT,e=.returned (.tuple #[mK y,.int .i64 0,.int .i64 0])/\d.at_ w' (eI w.heap.size w') y/\Below w.heap.size w w'
variable{x:Nat}
theorem UY{r:List UInt8} (h:dG r=.error x):x=2\/x=30:=by
 match r with
 | []=>injection h with h;exact .inr h.symm
 | c::r=>
   simp only[dG] at h;split at h
   ·split at h
    ·cases h
    ·injection h with h;exact .inl h.symm
   split at h
   ·exact Zcv
   split at h
   ·exact Zcv
   ·exact Zcv
theorem GM (n:Nat):∀(f:Nat) (r:List UInt8) (p x:Nat),oZ n f r=.error (p,x)->x=2\/x=30
 | 0,r,p,x,h=>by injection h with h;injection h with h1 h2;exact .inr h2.symm
 | f+1,r,p,x,h=>by
   simp only[oZ] at h;split at h
   ·cases h
   ·split at h
    ·rename_i e he;injection h with h;injection h with h1 h2;subst h2;exact UY he
    ·split at h
     ·rename_i y hy;injection h with h;subst h;exact GM n f _ _ _ hy
     ·cases h
variable{s:List UInt8}
theorem GN{p:Nat}(h:kO s=.error (p,x)):x=2\/x=30:=by
 unfold kO at h;split at h
 ·injection h with h;injection h with h1 h2;exact .inl h2.symm
 ·exact GM _ _ _ _ _ h
variable{gl:Nat}
theorem bw.start{c:Nat} {l:List na}(xk:gl < w.heap.size)(hc:∀k t,l[k]?=some t->w.cell? ⟨gl,k*4,none⟩=some (.int .u8 t.w.k)/\w.cell? ⟨gl,k*4+1,none⟩=some (.string ⟨t.w.s.toArray⟩)/\w.cell? ⟨gl,k*4+2,none⟩=some (.int .i64 t.w.n)/\w.cell? ⟨gl,k*4+3,none⟩=some (.int .i64 t.p))
  (he:jv (l.map (·.w))) (hlen:l.length<=4097) (hwd:∀t∈l,ZE t.w):
  (⟨w.heap.size,gl,c,l⟩:bw).at (w.alloc (.cells #[.slice (some ⟨gl,0,none⟩) l.length c,.int .i64 0,.int .i64 (-1),.bool false] 125)) (.good (l.map (·.w))) false:=by
 have hb:=av.new w 125 #[.slice (some ⟨gl,0,none⟩) l.length c,.int .i64 0,.int .i64 (-1),.bool false];refine⟨?_,xk,?_,⟨suffix_refl _,he⟩,?_,λ t ht=>(hwd t ht).1⟩
 ·have e:(⟨w.heap.size,gl,c,l⟩:bw).cells (.good (l.map (·.w))) false= #[.slice (some ⟨gl,0,none⟩) l.length c,.int .i64 0,.int .i64 (-1),.bool false]:=by simp[bw.cells,bw.n,bw.bad,eu.left]
  rw[e];exact hb
 ·intro k t hk;have c:=λ o=>World.cell?_alloc_lt w (.cells #[.slice (some ⟨gl,0,none⟩) l.length c,.int .i64 0,.int .i64 (-1),.bool false] 125) ⟨gl,o,none⟩ xk
  obtain⟨h1,h2,h3,h4⟩:=hc k t hk;exact Zda
 ·show l.length<=5000;omega
theorem Ma(w:World)(o:Obj)(cs:Array Value):∀b,eI B w b->(∀i,((w.alloc o).setRow w.heap.size cs).cell? ⟨b,i,none⟩=w.cell? ⟨b,i,none⟩)/\eI B ((w.alloc o).setRow w.heap.size cs) b:=λ b hb=>
 ⟨cell_of_heap ((setRow_other _ w.heap.size b cs (by have:=hb.2;omega)).trans (Below.heap_alloc w o b hb.2)),hb.1,by rw[size_setRow];have:=hb.2;simp;omega⟩
def Sn (w:World)(y z:Ex):Prop:=∀W,Below w.heap.size w W->Calls Tryz.prog 16 #[eb y,eb z] W λ e w'=>e=.returned (.bool true)/\Below W.heap.size W w'
def ahL (w:World)(a b:Sl):Prop:=∀W,Below w.heap.size w W->Calls Tryz.prog 31 #[.slice a.A a.n a.c,.slice b.A b.n b.c] W λ e w'=>e=.returned (.bool true)/\Below W.heap.size W w'
theorem QD (w:World)(y z:Ex)(hop:z.op=y.op)(hv:z.v=y.v)(hn:z.name=y.name)(hw:z.width=y.width)(hL:ahL w ⟨y.A,y.n,y.c⟩ ⟨z.A,z.n,z.c⟩):Sn w y z:=by
 intro W hW;obtain⟨op2,v2,ann,asz,A,n,c⟩:=y;obtain⟨op,v,name,width,A2,n2,c2⟩:=z;simp only at hop hv hn hw;subst hop hv hn hw;have HL:=hid hL;clear hL;unfold eb aU;obtain⟨vk,vn,vs⟩:=v;go_enter Tryz.func16,Tryz.ntmps16;have hX:=(av.new W 36 #[.int .u8 op,.int .u8 vk,.int .i64 vn,.string vs,.string name,.int .i64 width,.slice A n c]).alloc (.cells #[.int .u8 op,.int .u8 vk,.int .i64 vn,.string vs,.string name,.int .i64 width,.slice A2 n2 c2] 36);have hZ:=av.new (W.alloc (.cells #[.int .u8 op,.int .u8 vk,.int .i64 vn,.string vs,.string name,.int .i64 width,.slice A n c] 36)) 36 #[.int .u8 op,.int .u8 vk,.int .i64 vn,.string vs,.string name,.int .i64 width,.slice A2 n2 c2];rw[World.size_alloc] at hZ;have hB:=af.then (aa W (.cells #[.int .u8 op,.int .u8 vk,.int .i64 vn,.string vs,.string name,.int .i64 width,.slice A n c] 36)) (aa _ (.cells #[.int .u8 op,.int .u8 vk,.int .i64 vn,.string vs,.string name,.int .i64 width,.slice A2 n2 c2] 36));have x0:=hX.cell 0;have x1:=hX.cell 1;have x2:=hX.cell 2;have x3:=hX.cell 3;have x4:=hX.cell 4;have x5:=hX.cell 5;have x6:=hX.cell 6;simp only[Uaa] at x0 x1 x2 x3 x4 x5 x6;have z0:=hZ.cell 0;have z1:=hZ.cell 1;have z2:=hZ.cell 2;have z3:=hZ.cell 3;have z4:=hZ.cell 4;have z5:=hZ.cell 5;have z6:=hZ.cell 6;simp only[Uaa] at z0 z1 z2 z3 z4 z5 z6;have e1:(op==op)=true:=by simp
 have e2:(vk==vk)=true:=by simp
 have e3:(vn==vn)=true:=by simp
 have e4:(vs.toList==vs.toList)=true:=by simp
 have e5:(name.toList==name.toList)=true:=by simp
 have e6:(width==width)=true:=by simp
 go_wp2_with fail;refine(HL.out _ (hW.trans (hB.mono hW.size))).mono ?_;rintro e w1 ⟨rfl,b1⟩;replace hB:=af.then hB b1;clear b1 x0 x1 x2 x3 x4 x5 x6 z0 z1 z2 z3 z4 z5 z6;go_wp2_with fail;go_ret;exact⟨rfl,hB⟩
theorem zhR.KcA(h:p:=by have hb1:=af.then iV wk;clear Dt x9 k0 k1 k2 k3 k4 k5 k6 m0 m1 m2 m3 m4 m5 m6 BO wk;exact ZbP):p:=h
theorem zf6.KbP(h:p:=by open zhR in exact Zgo):p:=h
theorem zeL.Kbg(h:p:=by
 have hcell:=λ j v hv=>(hwr.cell (p:=⟨b,off+i*7+j,none⟩) (hS b kM)).trans (hc i x j v hx hv)
 have cr:=λ j v hv=>(hwr.cell (p:=⟨b2,fL+i*7+j,none⟩) (vM b2 rH)).trans (hc2 i u j v hu hv)
 have k0:=λ q:Ext wr.heap.size wr=>(q.h.cell (p:=⟨b,off+i*7,none⟩) rI).trans (hcell 0 (.int .u8 x.op) rfl)
 have k1:=λ q:Ext wr.heap.size wr=>(q.h.cell (p:=⟨b,off+i*7+1,none⟩) rI).trans (hcell 1 (.int .u8 x.v.k) rfl)
 have k2:=λ q:Ext wr.heap.size wr=>(q.h.cell (p:=⟨b,off+i*7+2,none⟩) rI).trans (hcell 2 (.int .i64 x.v.n) rfl)
 have k3:=λ q:Ext wr.heap.size wr=>(q.h.cell (p:=⟨b,off+i*7+3,none⟩) rI).trans (hcell 3 (.string x.v.s) rfl)
 have k4:=λ q:Ext wr.heap.size wr=>(q.h.cell (p:=⟨b,off+i*7+4,none⟩) rI).trans (hcell 4 (.string x.name) rfl)
 have k5:=λ q:Ext wr.heap.size wr=>(q.h.cell (p:=⟨b,off+i*7+5,none⟩) rI).trans (hcell 5 (.int .i64 x.width) rfl)
 have k6:=λ q:Ext wr.heap.size wr=>(q.h.cell (p:=⟨b,off+i*7+6,none⟩) rI).trans (hcell 6 (.slice x.A x.n x.c) rfl)
 have m0:=λ q:Ext wr.heap.size wr=>(q.h.cell (p:=⟨b2,fL+i*7,none⟩) iI).trans (cr 0 (.int .u8 u.op) rfl)
 have m1:=λ q:Ext wr.heap.size wr=>(q.h.cell (p:=⟨b2,fL+i*7+1,none⟩) iI).trans (cr 1 (.int .u8 u.v.k) rfl)
 have m2:=λ q:Ext wr.heap.size wr=>(q.h.cell (p:=⟨b2,fL+i*7+2,none⟩) iI).trans (cr 2 (.int .i64 u.v.n) rfl)
 have m3:=λ q:Ext wr.heap.size wr=>(q.h.cell (p:=⟨b2,fL+i*7+3,none⟩) iI).trans (cr 3 (.string u.v.s) rfl)
 have m4:=λ q:Ext wr.heap.size wr=>(q.h.cell (p:=⟨b2,fL+i*7+4,none⟩) iI).trans (cr 4 (.string u.name) rfl)
 have m5:=λ q:Ext wr.heap.size wr=>(q.h.cell (p:=⟨b2,fL+i*7+5,none⟩) iI).trans (cr 5 (.int .i64 u.width) rfl)
 have m6:=λ q:Ext wr.heap.size wr=>(q.h.cell (p:=⟨b2,fL+i*7+6,none⟩) iI).trans (cr 6 (.slice u.A u.n u.c) rfl)
 have BO:=λ q:Ext wr.heap.size wr=>hD q.w (hwr.trans (q.h.mono hwr.size))
 unfold eb aU at BO;clear hcell cr hc hc2 hx hu hwr hD;subst mg Aq;go_upto_region 10 with fail;refine fo 10 wr.heap.size wr (Below.refl _ _) Tac Tac Tac Tac ?_;open zf6 in exact ZdZ):p:=h
theorem Ho (w:World)(A A2:Option Addr)(c c2:Nat)(ys zs:List Ex)(S S2:Nat->Prop)(hS:∀b,S b->b < w.heap.size)(vM:∀b,S2 b->b < w.heap.size)(hlen:zs.length=ys.length)(hA:RL aU 7 w S A ys)(Fu:RL aU 7 w S2 A2 zs)(h:∀(i:Nat) y z,ys[i]?=some y->zs[i]?=some z->Sn w y z)(hl:ys.length<=1000000000):ahL w ⟨A,ys.length,c⟩ ⟨A2,zs.length,c2⟩:=by
 intro W hW;have HD:=hid h;have HA:=hid hA;have ia:=hid Fu;clear h hA Fu;obtain⟨n,hn⟩:∃n,n=ys.length:=⟨_,rfl⟩;rw[<- hn] at hlen hl ⊢;rw[hlen];have HN:=hid hn;have BD:=hid hlen;clear hn hlen;show Calls Tryz.prog 31 #[.slice A n c,.slice A2 n c2] W _;have t0:(n != n)=false:=by simp
 have t1:((n:Int) !=(n:Int))=false:=by simp
 go_enter Tryz.func31,Tryz.ntmps31;go_wp2_with fail;clear t0 t1;have HW:=hid hW;go_loopw [5] (λ iv wr=>∃i:Nat,i<=n/\iv=.int .i64 i/\Below W.heap.size W wr) (λ iv _=>n - (intOf iv).toNat);case atStart=>exact⟨0,Nat.zero_le _,rfl,Below.refl _ _⟩
 case round=>
  obtain⟨i,hi,rfl,iV⟩:=hrel;by_cases hlt:i < n
  ·obtain⟨x,hx⟩:∃x,ys[i]?=some x:=⟨_,getElem?_eq_getElem Ta2⟩;obtain⟨u,hu⟩:∃u,zs[i]?=some u:=⟨_,getElem?_eq_getElem (by have:=BD.out;omega)⟩;have hD:=HD.out i x u hx hu;have hwr:Below w.heap.size w wr:=hW.trans (iV.mono hW.size);rcases HA.out with h0 |⟨b,off,mg,kM,hc⟩
   ·exact ZgN
   rcases ia.out with h0 |⟨b2,fL,Aq,rH,hc2⟩
   ·exact ZgO
   open zeL in exact Zch
  ·obtain rfl:i=n:=by omega
   go_wp2_with fail;go_ret;exact⟨rfl,iV⟩
mutual
theorem Tr.Co {w:World} {S S2:Nat->Prop}(hS:∀b,S b->b < w.heap.size)(vM:∀b,S2 b->b < w.heap.size):∀(t:Tr) (y z:Ex),t.at_ w S y->t.at_ w S2 z->t.thin->Sn w y z
 | .mk op v name width args,y,z,h,h2,ht=>by unfold Tr.at_ at h h2;obtain⟨a1,a2,a3,a4,hn,ys,hr,ha⟩:=h;obtain⟨c1,c2,c3,c4,hn2,zs,hr2,ha2⟩:=h2;unfold Tr.thin at ht;have hl:=Tr.gq.length ha;have hl2:=Tr.gq.length ha2;refine QD w y z (by rw[c1,a1]) (by rw[c2,a2]) (by rw[c3,a3]) (by rw[c4,a4]) ?_;have:=Ho w y.A z.A y.c z.c ys zs S S2 hS vM Taa hr hr2 (Tr.Ev hS vM args ys zs ha ha2 ht.2) Ta4;rw[hn,hn2,<- hl];rw[hl2,<- hl] at this;exact this
theorem Tr.Ev {w:World} {S S2:Nat->Prop}(hS:∀b,S b->b < w.heap.size)(vM:∀b,S2 b->b < w.heap.size):∀(ts:List Tr) (ys zs:List Ex),Tr.gq w S ts ys->Tr.gq w S2 ts zs->Tr.iP ts->∀(i:Nat) y z,ys[i]?=some y->zs[i]?=some z->Sn w y z
 | [],ys,zs,h,h2,_,i,y,z,hy,hz=>by unfold Tr.gq at h;subst h;simp at hy
 | t::ts,ys,zs,h,h2,ht,i,y,z,hy,hz=>by
   unfold Tr.gq at h h2;obtain⟨y0,ys',rfl,h1,h3⟩:=h;obtain⟨z0,zs',rfl,k1,k3⟩:=h2;unfold Tr.iP at ht
   match i,hy,hz with
   | 0,hy,hz=>simp at hy hz;subst hy hz;exact Tr.Co hS vM t _ _ h1 k1 ht.1
   | i+1,hy,hz=>exact Tr.Ev hS vM ts ys' zs' h3 k3 ht.2 i y z (by simpa using hy) (by simpa using hz)
end
variable{S2:Nat->Prop}{ts:List Tr}
theorem Ew(hS:∀b,S b->b < w.heap.size)(vM:∀b,S2 b->b < w.heap.size)  {a b:Sl}(h:fy.sl w S a ts)(h2:fy.sl w S2 b ts)(ht:Tr.iP ts)(hl:ts.length<=1000000000):ahL w a b:=by obtain⟨hn,ys,hr,ha⟩:=h;obtain⟨hn2,zs,hr2,ha2⟩:=h2;have ha:=BU.1 ha;have ha2:=BU.1 ha2;have l1:=Tr.gq.length ha;have l2:=Tr.gq.length ha2;obtain⟨aA,an,ac⟩:=a;obtain⟨bA,bn,bc⟩:=b;have:=Ho w aA bA ac bc ys zs S S2 hS vM Taa hr hr2 (Tr.Ev hS vM ts ys zs ha ha2 ht) Taa;simp only at hn hn2;rw[hn,hn2,<- l1];rw[l2,<- l1] at this;exact this
end Go.Proofs.YtehhdlgjfdnafaaGreatDoor
