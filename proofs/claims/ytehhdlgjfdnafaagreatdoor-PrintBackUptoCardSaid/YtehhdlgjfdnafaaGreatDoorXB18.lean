/- Parts of the proof. -/
import Derived.Test.YtehhdlgjfdnafaaGreatDoorXB11
namespace Go.Proofs.YtehhdlgjfdnafaaGreatDoor
variable{p:Prop}
set_option maxHeartbeats 90000000
set_option maxRecDepth 100000
open Go.Lib (hid)
open Go.ChangeShapes Go.WideShapes Go.ChangeAt Go.RowKit List
set_option linter.unusedVariables false
set_option linter.unusedSimpArgs false
def orC (y:Ex×Bool):List Value:=aT y.1++ [.bool y.2]
def nG (B:Nat)(v:Value)(w:World):Nat->Prop:=λ b=>B<=b/\b < w.heap.size/\some b≠v.ownBlock
variable{B:Nat}{v:Value}{w w':World}
theorem oz{g:Nat}  (h:w.grownBy w' (some g))(hg:g < B):∀b,nG B v w b->(∀o,w'.cell? ⟨b,o,none⟩=w.cell? ⟨b,o,none⟩)/\nG B v w' b:=λ b hb=>
 ⟨cell_of_heap (h.block b hb.2.1 (λ e=>by injection e with e;have:=hb.1;omega)),hb.1,Nat.lt_of_lt_of_le hb.2.1 h.size,hb.2.2⟩
theorem fJ(h:Below w.heap.size w w'):∀b,nG B v w b->(∀o,w'.cell? ⟨b,o,none⟩=w.cell? ⟨b,o,none⟩)/\nG B v w' b:=λ b hb=>
 ⟨cell_of_heap (h.block b hb.2.1),hb.1,Nat.lt_of_lt_of_le hb.2.1 h.size,hb.2.2⟩
variable{v':Value}
theorem tG(h:w.grownBy w' v.ownBlock)(hv:v'.ownBlock=v.ownBlock\/v'.ownBlock=some w.heap.size):∀b,nG B v w b->(∀o,w'.cell? ⟨b,o,none⟩=w.cell? ⟨b,o,none⟩)/\nG B v' w' b:=λ b hb=>
 ⟨cell_of_heap (h.block b hb.2.1 hb.2.2),hb.1,Nat.lt_of_lt_of_le hb.2.1 h.size,λ e=>by
   rcases hv with hv | hv
   ·exact hb.2.2 (e.trans hv)
   ·rw[hv] at e;injection e with e;have:=hb.2.1;omega⟩
variable{B':Nat}
theorem CV(hB:B'<=B)(hv:∀g,v.ownBlock=some g->g < B):∀b,eC B w b->(∀o,w.cell? ⟨b,o,none⟩=w.cell? ⟨b,o,none⟩)/\nG B' v w b:=λ b hb=>
 ⟨λ _=>rfl,Nat.le_trans hB hb.1,hb.2,λ e=>by have:=hv b e.symm;have:=hb.1;omega⟩
theorem CW(hB:B'<=B):∀b,nG B v w b->(∀o,w.cell? ⟨b,o,none⟩=w.cell? ⟨b,o,none⟩)/\eC B' w b:=λ b hb=>⟨λ _=>rfl,Nat.le_trans hB hb.1,hb.2.1⟩
structure jw {α:Type} (E:El α) (T:TypeId) (w:World) (B:Nat) (v:Value) (l:List α):Prop where
 has:∃ys:List E.β,cJ E.f T E.size w B v ys/\fE (E.rel w (nG B v w)) l ys
section
variable {α:Type} {E:El α} {T:TypeId} {w w':World} {B g:Nat} {v:Value} {l:List α}
theorem jw.later (h:jw E T w B v l)(hb:Below w.heap.size w w'):jw E T w' B v l:=by obtain⟨ys,h1,h2⟩:=h.has;exact⟨ys,h1.later hb,h2.imp λ x y=>E.keep (fJ hb)⟩
theorem jw.Iz (h:jw E T w B v l) {G:Nat}(hG:v.ownBlock=some G):B<=G/\G < w.heap.size:=by obtain⟨ys,h1,h2⟩:=h.has;exact⟨(h1.lt hG).2.1,(h1.lt hG).1⟩
theorem jw.grown (h:jw E T w B v l)(hb:w.grownBy w' (some g))(hg:g < B):jw E T w' B v l:=by obtain⟨ys,h1,h2⟩:=h.has;exact⟨ys,h1.grown hb (λ e=>by have:=(h1.lt e).2.1;omega),h2.imp λ x y=>E.keep (oz hb hg)⟩
theorem jw.sl (h:jw E T w B v l) {B':Nat}(hB:B'<=B):∃y:Sl,v=fF y/\y.n=l.length/\E.sl w (eC B' w) y l:=by obtain⟨ys,h1,h2⟩:=h.has;obtain⟨A,c,hv,hr⟩:=Od E.hf h1 (S:=eC B' w) (λ g h3 h4=>⟨by omega,h4⟩);refine⟨⟨A,l.length,c⟩,?_,rfl,rfl,ys,hr,h2.imp λ x y=>E.keep (CW hB)⟩;rw[hv,h2.len];rfl
theorem jw.nil (E:El α)(T:TypeId)(w:World)(B:Nat):jw E T w B (.slice none 0 0) []:=⟨[],cJ.nil,.nil⟩
end
theorem zu:(Tryz.prog.info? 51).map (λ i=>(i.zero,i.size,i.bytes))=some (some (.agg #[.int .u8 0,.int .u8 0,.int .i64 0,.string ⟨#[]⟩,.string ⟨#[]⟩,.int .i64 0,.slice none 0 0,.string ⟨#[]⟩]),8,104):=by exact Zhj
variable{α:Type}
def acx(E:El α)(lng:α->Bool)(ρ:bp)(p:Ps α)(σ:dX)(big:Bool)(y:E.β)(w w':World):Prop:=∃x:α,E.rel w' (eC w.heap.size w') x y/\iq ρ w w' (eW p σ) (big || lng x)/\qm p σ x
variable{E:El α}{T:TypeId}{lng:α->Bool}{ρ:bp}{σ:dX}{big:Bool}{w0 wr w1 eQ w2 W:World}{acc:List α}
theorem OJ{p:Ps α}       {y:E.β}(hB:w0.heap.size<=B)(hg:ρ.g < w0.heap.size)(hR:jw E T wr B v acc)(hBr:B<=wr.heap.size)(hD:iq ρ w0 wr σ big)(vt:af wr w1)(hp:acx E lng ρ p σ big y w1 eQ)(hl2:af eQ w2)(lJ:w2.grownBy W v.ownBlock)
  (ys:List E.β) (oQ:cJ E.f T E.size W B v' (ys++ [y])) (hys:fE (E.rel wr (nG B v wr)) acc ys) (hv:v'.ownBlock=v.ownBlock\/v'.ownBlock=some w2.heap.size):
  ∃x:α,jw E T W B v' (acc++ [x])/\iq ρ w0 W (eW p σ) (big || lng x)/\qm p σ x:=by
 obtain⟨x,hx,hd,hgv⟩:=hp;have hgB:ρ.g < B:=by omega
 have own:∀G,v.ownBlock=some G->B<=G/\G < wr.heap.size:=λ G hG=>hR.Iz hG
 refine⟨x,⟨ys++ [y],oQ,fE.append ?_ (.one ?_)⟩,?_,hgv⟩
 ·exact hys.imp λ a b hab=>E.keep (tG lJ hv) (E.keep (fJ hl2) (E.keep (oz hd.grown hgB) (E.keep (fJ vt) hab)))
 ·refine E.keep (tG lJ hv) (E.keep (CV (B:=w1.heap.size) (B':=B) (Nat.le_trans hBr vt.size) λ G hG=>?_) (E.keep (gh hl2) hx));exact Nat.lt_of_lt_of_le (own G hG).2 vt.size
 ·exact(((hD.later vt).trans hd).later hl2).own hg lJ λ G hG=>by have:=(own G hG).1;omega
variable{q:Nat}
theorem tH(hq:q < B)(i:Nat)(u:Value):∀b,nG B v w b->(∀o,(w.setCell ⟨q,i,none⟩ u).cell? ⟨b,o,none⟩=w.cell? ⟨b,o,none⟩)/\nG B v (w.setCell ⟨q,i,none⟩ u) b:=λ b hb=>
 ⟨cell_of_heap (Below.heap_setCell w ⟨q,i,none⟩ u b Ta7),hb.1,by simpa [World.setCell] using hb.2.1,hb.2.2⟩
variable{l:List α}
theorem jw.far(h:jw E T w B v l)(hq:q < B)(i:Nat)(u:Value):jw E T (w.setCell ⟨q,i,none⟩ u) B v l:=by
 have EX:=λ G hG=>(h.Iz (G:=G) hG).1
 obtain⟨ys,h1,h2⟩:=h.has;exact⟨ys,h1.keep λ g hg=>Below.heap_setCell w ⟨q,i,none⟩ u g (by have:=EX g hg;simp;omega),h2.imp λ x y=>E.keep (tH hq i u)⟩
variable{S:Nat->Prop}{G:Nat}{y:Ex}
theorem XQ{x:Tr} (h:av w G 36 (aT y).toArray)(hS:S G)(hx:x.at_ w S y):eE.sl w S ⟨some ⟨G,0,none⟩,1,1⟩ [x]:=
 ⟨rfl,[y],Cg (f:=aT) sU (by show av w G _ (aT y++ []).toArray;rw[append_nil];exact h) hS,.one hx⟩
def MJ (y:Ex×ByteArray):List Value:=aT y.1++ [.string y.2]
def itV (y:Ex×ByteArray):Value:=.agg (MJ y).toArray
variable{a b c d e f g:Value}
theorem jt{i:Value}(h:av w q T #[a,b,c,d,e,f,g,i]):
  w.cell? ⟨q,0,none⟩=some a/\w.cell? ⟨q,1,none⟩=some b/\w.cell? ⟨q,2,none⟩=some c/\w.cell? ⟨q,3,none⟩=some d/\w.cell? ⟨q,4,none⟩=some e/\w.cell? ⟨q,5,none⟩=some f/\w.cell? ⟨q,6,none⟩=some g/\w.cell? ⟨q,7,none⟩=some i:=
 ⟨h.cell 0,h.cell 1,h.cell 2,h.cell 3,h.cell 4,h.cell 5,h.cell 6,h.cell 7⟩
variable{cs:Array Value}
theorem rB(h:av w q T cs):
  w.frozen? ⟨q,0,none⟩=false/\w.frozen? ⟨q,1,none⟩=false/\w.frozen? ⟨q,2,none⟩=false/\w.frozen? ⟨q,3,none⟩=false/\w.frozen? ⟨q,4,none⟩=false/\w.frozen? ⟨q,5,none⟩=false/\w.frozen? ⟨q,6,none⟩=false/\w.frozen? ⟨q,7,none⟩=false:=
 ⟨h.frozen 0,h.frozen 1,h.frozen 2,h.frozen 3,h.frozen 4,h.frozen 5,h.frozen 6,h.frozen 7⟩
def Iq (w:World)(q:Nat)(y:Ex)(v:Value):World:=(gL w q y).setCell ⟨q,7,none⟩ v
theorem iq.Iq(h:iq ρ W w σ big)(hW:ρ.g < W.heap.size)(hq:W.heap.size<=q)(y:Ex)(v:Value):iq ρ W (Iq w q y v) σ big:=(h.gL hW hq y).far hW hq 7 v
variable{t:Tr}
theorem Tr.at_.Iq(h:t.at_ w (eC B w) y)(hq:q < B)(z:Ex)(v:Value):t.at_ (Iq w q z v) (eC B (Go.Proofs.YtehhdlgjfdnafaaGreatDoor.Iq w q z v)) y:=(h.gL hq z).set hq 7 v
theorem XR{i:Value}(h:av w q T #[a,b,c,d,e,f,g,i])(y:Ex)(v:Value):av (Iq w q y v) q T (aT y++ [v]).toArray:=by have:=((((((((h.cC 0 (.int .u8 y.op)).cC 1 (.int .u8 y.v.k)).cC 2 (.int .i64 y.v.n)).cC 3 (.string y.v.s)).cC 4 (.string y.name)).cC 5 (.int .i64 y.width)).cC 6 (.slice y.A y.n y.c)).cC 7 v);exact Zdt
def itZ:Obj:=.cells #[.int .u8 0,.int .u8 0,.int .i64 0,.string ⟨#[]⟩,.string ⟨#[]⟩,.int .i64 0,.slice none 0 0,.string ⟨#[]⟩] 51
theorem rE (m:fl):(bD m).toArray.size=28:=rfl
theorem OL (m:fl):(bD m).toArray.all (·.oneCell')=true:=by simp[bD,jX,fp,fF,Value.oneCell']
theorem rF:(Tryz.prog.info? 34).map (·.size)=some 28:=by exact Zhj
theorem apD (b o j:Nat):(Addr.add ⟨b,o,none⟩ j)=⟨b,o+j,none⟩:=by unfold Addr.add;split <;> simp_all
variable{size:Nat}
theorem KZ{f:α->List Value} (hf:∀x,(f x).length=size)(h0:0 < size):∀(l:List α) (j:Nat) (u:Value),(l.flatMap f)[j]?=some u->∃k r x,j=k*size+r/\l[k]?=some x/\(f x)[r]?=some u
 | [],j,u,h=>by simp at h
 | y::l,j,u,h=>by
   rw[flatMap_cons] at h;by_cases hj:j < size
   ·rw[getElem?_append_left (by rw[hf];exact hj)] at h;exact⟨0,j,y,by omega,rfl,h⟩
   ·rw[getElem?_append_right (by rw[hf];omega),hf] at h;obtain⟨k,r,x,h1,h2,h3⟩:=KZ hf h0 l _ u h;exact⟨k+1,r,x,by rw[Nat.succ_mul];omega,by simpa using h2,h3⟩
theorem acH:∀ys:List Ex,(ys.flatMap aT).length=ys.length*7
 | []=>rfl
 | y::ys=>by rw[flatMap_cons,length_append,acH ys,sU,length_cons];omega
variable{A:Option Addr}{ys:List Ex}
theorem YC(h:RL aT 7 w S A ys) (hS:∀b,S b->b < B):Reads w B 7 A ys.length (ys.flatMap aT):=by
 refine⟨acH ys,λ hn=>?_⟩;rcases h with h |⟨b,off,hA,hb,hc⟩
 ·subst h;simp at hn
 ·refine⟨⟨b,off,none⟩,hA,hS b hb,λ j u hu=>?_⟩;obtain⟨k,r,x,rfl,h2,h3⟩:=KZ sU Taa ys j u hu;rw[apD,<- Nat.add_assoc];exact hc k x r u h2 h3
theorem YD:∀(ys:List Ex),∀u∈ys.flatMap aT,u.oneCell'=true:=by intro ys u hu;obtain⟨y,_,hu⟩:=List.mem_flatMap.1 hu;simp[aT] at hu;exact Zhp
structure AY (w:World) (S:Nat->Prop) (v:Value) (wr:World) (acc:List Tr):Prop where
 has:∃ys:List Ex,cJ aT 36 7 wr w.heap.size v ys/\fE (λ t y=>Tr.at_ w S t y) acc ys
 below:Below w.heap.size w wr
section
variable {w wr wr':World} {S:Nat->Prop} {v v':Value} {acc l:List Tr} {B:Nat}
theorem AY.start (w:World)(S:Nat->Prop):AY w S (.slice none 0 0) w []:=⟨⟨[],cJ.nil,.nil⟩,Below.refl _ _⟩
theorem AY.later (h:AY w S v wr acc)(hb:Below wr.heap.size wr wr'):AY w S v wr' acc:=by obtain⟨ys,h1,h2⟩:=h.has;exact⟨⟨ys,h1.later hb,h2⟩,af.then h.below hb⟩
theorem AY.len (h:AY w S v wr acc):∃A c,v=.slice A acc.length c:=by obtain⟨ys,h1,h2⟩:=h.has;obtain⟨A,c,hv,_⟩:=h1.reads;exact⟨A,c,by rw[hv,h2.len]⟩
theorem AY.far (h:AY w S v wr acc)(hg:wr.grownBy wr' v.ownBlock) {q:Nat} {t:TypeId} {cs:Array Value}(hq:av wr q t cs)(ht:t≠36):av wr' q t cs:=by obtain⟨ys,h1,h2⟩:=h.has;exact hq.JN h1 ht hg
theorem AY.sl (h:AY w S v wr acc)(hS:∀b,S b->b < w.heap.size):∃y:Sl,v=fF y/\y.n=acc.length/\eE.sl wr (eC 0 wr) y acc:=by obtain⟨ys,h1,h2⟩:=h.has;obtain⟨A,c,hv,hr⟩:=Od eE.hf h1 (S:=eC 0 wr) (λ g h3 h4=>⟨by omega,h4⟩);have hs:=h.below.size;have e:v=.slice A (List.length (α:=Ex) ys) c:=hv;refine⟨⟨A,acc.length,c⟩,by rw[e,h2.len];rfl,rfl,rfl,ys,hr,h2.imp λ t y ht=>?_⟩;exact Tr.at_.keep (λ b hb=>⟨cell_of_heap (h.below.block b (hS b hb)),Nat.zero_le _,Nat.lt_of_lt_of_le (hS b hb) hs⟩) _ _ ht
def YE (w:World)(S:Nat->Prop)(v:Value)(wr:World)(acc l:List Tr)(v':Value)(w':World):Prop:=AY w S v' w' (acc++l)/\wr.grownBy w' v.ownBlock
theorem kh (t ty:TypeId)(ht:Tryz.prog.underlying t=some (.slice 36))(h:AY w S v wr acc) {A:Option Addr} {n c:Nat}(hl:eE.sl w S ⟨A,n,c⟩ l)(hS:∀b,S b->b < w.heap.size)(hlen:acc.length+l.length<=1000000):
  ∃v' w',(Builtin.append_ #[t,t] ty #[v,.slice A n c]).run Tryz.prog wr=.ok v' w'/\YE w S v wr acc l v' w':=by
 obtain⟨hn,(zs:List Ex),hr,ha⟩:=hl;have ha:fE (λ t y=>Tr.at_ w S t y) l zs:=ha;replace hn:n=l.length:=hn;obtain⟨ys,h1,h2⟩:=h.has;have hr2:=YC hr hS;have hr3:=(hr2.below h.below).more h.below.size;obtain⟨i0,nd,hz0,hz1,hz2⟩:=info_parts Ip;have hzl:=ha.len;have hyl:=h2.len;obtain⟨v',w',hrun,h3,h4,h5⟩:=nV (P:=Tryz.prog) wr w.heap.size t ty 36 i0 _ 7 88 ht nd hz0 hz1 hz2 rfl Taa v ys.length (ys.flatMap aT) h1 wr.heap.size A zs.length c (zs.flatMap aT) hr3 (YD _) TaG Taa h.below.size;rw[hzl,<- hn] at hrun;refine⟨v',w',hrun,⟨⟨ys++zs,?_,fE.append h2 ha⟩,?_⟩,h4⟩
 ·unfold cJ;rw[length_append,flatMap_append];exact h3
 ·exact h.below.trans (nJ h1 h4 h.below.size)
theorem pJ (t ty:TypeId)(ht:Tryz.prog.underlying t=some (.slice 36))(h:AY w S v wr acc) {g:Nat} {y:Ex} {x:Tr}(hg:av wr g 36 (aT y).toArray)(hx:Tr.at_ w S x y)(hlen:acc.length+1<=1000000):
  ∃v' w',(Builtin.append_ #[t,t] ty #[v,.slice (some ⟨g,0,none⟩) 1 1]).run Tryz.prog wr=.ok v' w'/\YE w S v wr acc [x] v' w':=by obtain⟨ys,h1,h2⟩:=h.has;have hyl:=h2.len;obtain⟨v',w',hr,ho,ha⟩:=kW (P:=Tryz.prog) (w:=wr) t ty _ 88 ht Ip rfl Taa sU (y:=y) (by intro u hu;exact YD [y] u (by simpa using hu)) h1 g hg Taa Taa h.below.size;exact⟨v',w',hr,⟨⟨ys++ [y],ho,fE.append h2 (.one hx)⟩,h.below.trans (nJ h1 ha.grown h.below.size)⟩,ha.grown⟩
theorem zi3.Kc2(h:p:=by exact h v' w' hp):p:=h
theorem EI {o:Oper} {a:Act} {K:Act->World->Prop} {Q:Exit->Act->World->Prop}(s x:Operand)(t:TypeId)
  (ho:o.op=.call { callee:=.builtin .append,args:= #[s,x],argTypes:= #[t,t] }) {P:Value->World->Prop} {xv:Value} (hs:a.eval s=v) (hx:a.eval x=xv)
  (hr:∃v' w',(Builtin.append_ #[t,t] o.type #[v,xv]).run Tryz.prog wr=.ok v' w'/\P v' w') (h:∀v' w',P v' w'->K (a.put o.dst v') w'):o.wp Tryz.prog a wr K Q:=by obtain⟨v',w',hrun,hp⟩:=hr;open zi3 in exact Zhv
theorem gH {ops:Array Oper} {rest:List Oper} {o:Oper} {a:Act} {Q:Exit->Act->World->Prop}(hgd:o.guard=none)(s x:Operand)(t:TypeId)
  (ho:o.op=.call { callee:=.builtin .append,args:= #[s,x],argTypes:= #[t,t] }) {P:Value->World->Prop} {xv:Value} (hs:a.eval s=v) (hx:a.eval x=xv)
  (hr:∃v' w',(Builtin.append_ #[t,t] o.type #[v,xv]).run Tryz.prog wr=.ok v' w'/\P v' w') (h:∀v' w',P v' w'->wpList Tryz.prog ops Q rest (a.put o.dst v') w'):wpList Tryz.prog ops Q (o::rest) a wr:=
 wpList_plain hgd λ _ hK=>EI s x t ho hs hx hr λ v' w' hp=>hK _ _ (h v' w' hp)
end
variable{β:Type}{R:α->β->Prop}{m:List β}
theorem tJ(h:fE R l m):∀ {i:Nat} {x:α} {y:β},l[i]?=some x->m[i]?=some y->R x y:=by
 induction h with
 | nil=>intro i x y hx;simp at hx
 | cons h1 h2 ih=>
   intro i x y hx hy
   match i with
   | 0=>simp at hx hy;subst hx hy;exact h1
   | i+1=>exact ih TaI (by simpa using hy)
variable{i:Nat}{r:List α}
theorem FW{l:List (List α)}  (h:l[i]?=some r):(l.take (i+1)).flatten=(l.take i).flatten++r:=by rw[take_add_one,h];simp
theorem Y9{l:List (List α)}  (h:l[i]?=some r):(l.take i).flatten.length+r.length<=l.flatten.length:=by
 have e:=FW h;have h2:(l.take (i+1)).flatten++(l.drop (i+1)).flatten=l.flatten:=by rw[<- flatten_append,take_append_drop]
 rw[<- h2,e];simp only[length_append];omega
theorem CX{x:α}(f:α->β)(h:l[i]?=some x):(l.take (i+1)).map f=(l.take i).map f++ [f x]:=by rw[take_add_one,h];simp
def exJ (w:World)(S:Nat->Prop)(q:Nat)(cs:Array Value)(v0:Value)(acc l1 l2 l3:List Tr):List Value->World->Prop
 | [],wr=>AY w S v0 wr acc/\av wr q 28 cs
 | [a],wr=>AY w S a wr (acc++l1)/\av wr q 28 cs
 | [_,b],wr=>AY w S b wr (acc++l1++l2)/\av wr q 28 cs
 | [_,_,c],wr=>AY w S c wr (acc++l1++l2++l3)/\av wr q 28 cs
 | _,_=>False
theorem YJ (w:World)(S:Nat->Prop)(q:Nat)(cs:Array Value)(v0:Value)(acc l1 l2 l3:List Tr):∀vs wr,exJ w S q cs v0 acc l1 l2 l3 vs wr->exJ w S q cs v0 acc l1 l2 l3 vs wr.drew
 | [],wr,h=>⟨h.1.later (af.drew wr),h.2.drew⟩
 | [a],wr,h=>⟨h.1.later (af.drew wr),h.2.drew⟩
 | [_,b],wr,h=>⟨h.1.later (af.drew wr),h.2.drew⟩
 | [_,_,c],wr,h=>⟨h.1.later (af.drew wr),h.2.drew⟩
 | _::_::_::_::_,wr,h=>h.elim
variable{u1 u2 u3:Value}
theorem TZ(w:World)(S:Nat->Prop)(q:Nat)(cs:Array Value)(v0:Value)(acc l1 l2 l3:List Tr) (h1:cs[3]?=some u1)(h2:cs[4]?=some u2)(h3:cs[5]?=some u3):∀vs wr,exJ w S q cs v0 acc l1 l2 l3 vs wr->wr.cell? ⟨q,3,none⟩=some u1/\wr.cell? ⟨q,4,none⟩=some u2/\wr.cell? ⟨q,5,none⟩=some u3:=by
 intro vs wr h
 have hb:av wr q 28 cs:=by
  match vs,h with
  | [],h=>exact h.2
  | [a],h=>exact h.2
  | [_,b],h=>exact h.2
  | [_,_,c],h=>exact h.2
  | _::_::_::_::_,h=>exact h.elim
 exact⟨(hb.cell 3).trans h1,(hb.cell 4).trans h2,(hb.cell 5).trans h3⟩
theorem zgT.Kb4(h:p:=by
 go_loopw [3,8] (λ v iv wr=>∃(i:Nat),i<=d.query.order.length/\iv=.int .i64 i/\AY w S v wr (OQ++(d.query.order.take i).map (λ x=>x.1))/\av wr q 28 #[.slice y.query.items.A y.query.items.n y.query.items.c,.string y.query.aK,.bool y.query.only,.slice y.query.aR.A y.query.aR.n y.query.aR.c,.slice y.query.group.A y.query.group.n y.query.group.c,.slice y.query.having.A y.query.having.n y.query.having.c,.slice y.query.order.A y.query.order.n y.query.order.c,.slice y.query.aG.A y.query.aG.n y.query.aG.c]) (λ _ iv _=>d.query.order.length - (intOf iv).toNat);case atStart=>exact⟨0,Nat.zero_le _,rfl,by rw[take_zero,map_nil,append_nil];exact HX7.out,Wf.out⟩
 case round=>
  obtain⟨i,hi,rfl,hX,AA⟩:=hrel;clear HX7 Wf;have Ua:=jg.out.query.order.1;obtain⟨(zs:List (Ex×Bool)),vx,IG⟩:=jg.out.query.order.2;have jk:(zs:List (Ex×Bool)).length=d.query.order.length:=IG.len;have xl:wr.cell? ⟨q,6,none⟩=some (.slice y.query.order.A y.query.order.n y.query.order.c):=AA.cell 6;have su:=hid hX;have mR:=hid AA;have hwl:=AA.lt;clear hX AA;rw[Ua] at xl;have hls:d.query.order.length<=1000000:=by have:=HN.out;omega
  by_cases hlt:i < d.query.order.length
  ·obtain⟨r,hr⟩:∃r,d.query.order[i]?=some r:=⟨_,getElem?_eq_getElem hlt⟩;obtain⟨z,hz⟩:∃z,zs[i]?=some z:=⟨_,getElem?_eq_getElem Ta1⟩;have YK:=(tJ IG hr hz).1;have P1:=hid (CX (λ x=>x.1) hr);rcases vx with h0 |⟨b,off,kR,jP,hc⟩
   ·have h0:zs=([]:List (Ex×Bool)):=h0;exact ZfI
   have hcell:=λ j u hu=>(su.out.below.cell (p:=⟨b,off+i*8+j,none⟩) (HS.out b jP)).trans (hc i z j u hz hu)
   have zz:(OQ++(d.query.order.take i).map (λ x=>x.1)).length<=OQ.length+i:=by simp;omega
   obtain⟨⟨YL,zv,tK,zw,zA,zl,zc⟩,zn⟩:=z;have k0:=hcell 0 _ rfl;have k1:=hcell 1 _ rfl;have k2:=hcell 2 _ rfl;have k3:=hcell 3 _ rfl;have k4:=hcell 4 _ rfl;have k5:=hcell 5 _ rfl;have k6:=hcell 6 _ rfl;simp only[Nat.add_zero] at k0;have HZR:=hid YK;have HAL:=hid zz;clear zz YK hcell hc hr hz;generalize oV:OQ++(d.query.order.take i).map (λ x=>x.1)=acc at*;have Ub:=hid oV;clear oV;obtain⟨A3,c3,hv3⟩:=su.out.len;subst hv3;have Lf:=su.out.later (aa wr (.cells (aT ⟨YL,zv,tK,zw,zA,zl,zc⟩).toArray 36));have uQ:=hid (λ(ty:TypeId)=>pJ 24 ty Tryz.underlying24 Lf (av.new wr 36 (aT ⟨YL,zv,tK,zw,zA,zl,zc⟩).toArray) HZR.out (by have:=HAL.out;have:=HN.out;have:=Uc.out;have:=YO.out;have:=Z0.out;have:=apL.out;omega));have HBN:=hid (mR.out.alloc (.cells (aT ⟨YL,zv,tK,zw,zA,zl,zc⟩).toArray 36));have qW:=hid Lf;rw[kR] at xl;clear kR Ua IG jk Lf;go_wp2_with (first
    |(at_builtin
      refine gH rfl (.tmp 78) (.tmp 85) 24 rfl rfl rfl (uQ.out _) ?_
      rintro v' w9 ⟨EJ,qA⟩
      have P2:=hid EJ
      have HB':=hid (qW.out.far qA HBN.out Tab)
      clear EJ qA))
   exact Zb1
  obtain rfl:i=d.query.order.length:=by omega
  have YM:=su.out;rw[take_length] at YM;clear su;have zz:(OQ++d.query.order.map (λ x=>x.1)).length=OQ.length+d.query.order.length:=by simp
  have su:=hid YM;clear IG vx YM;obtain⟨A3,c3,hv3⟩:=su.out.len;subst hv3;have apM:=hid (show OQ++d.query.order.map (λ x=>x.1)=d.exprs by rw[<- akz.out,<- aky.out,<- akx.out,<- akw.out,<- akt.out];simp[St.exprs,Qu.exprs]);go_wp2_with fail;go_ret;obtain⟨sl,h1,h2,h3⟩:=su.out.sl HS.out;rw[apM.out] at h2 h3;exact⟨sl,congrArg Ending.returned h1,h2,h3,su.out.below⟩):p:=h
theorem Ao (w:World)(d:St)(y:fl)(S:Nat->Prop)(hS:∀b,S b->b < w.heap.size)(h:d.at_ w S y)(hlen:d.exprs.length<=1000000)(hr0:d.rows.length<=1048576):
  Calls Tryz.prog 17 #[ji y] w λ e w'=>∃sl:Sl,e=.returned (fF sl)/\sl.n=d.exprs.length/\eE.sl w' (eC 0 w') sl d.exprs/\Below w.heap.size w w':=by
 have jg:=hid h;have HS:=hid hS;have hn:(d.rows.flatten.length+d.aS.length+d.aR.length)+(d.query.items.length+d.query.aR.length+d.query.group.length+d.query.having.length+d.query.order.length)<=1000000:=by simp only[St.exprs,Qu.exprs,length_append,length_map] at hlen;omega
 have HN:=hid hn;have hb:=aa w (.cells (bD y).toArray 34);have hB:=av.new w 34 (bD y).toArray;have HX:=hid ((AY.start w S).later hb);have hst:=rE y;unfold ji;clear h hS hn hlen;go_enter Tryz.func17,Tryz.ntmps17;go_wp2_with fail;generalize w.alloc _=W1 at*;have hs1:w.heap.size+1<=W1.heap.size:=hB.lt;clear hst;go_loopw [3,4] (λ v iv wr=>∃(i:Nat),i<=d.rows.length/\iv=.int .i64 i/\AY w S v wr (d.rows.take i).flatten/\av wr w.heap.size 34 (bD y).toArray) (λ _ iv _=>d.rows.length - (intOf iv).toNat);case atStart=>exact⟨0,Nat.zero_le _,rfl,HX.out,hB⟩
 case round=>
  obtain⟨i,hi,rfl,hX,AA⟩:=hrel;have Ua:=jg.out.rows.1;obtain⟨(sls:List Sl),vx,IG⟩:=jg.out.rows.2;have jk:(sls:List Sl).length=d.rows.length:=IG.len;have wj:wr.cell? ⟨w.heap.size,19,none⟩=some (.slice y.rows.A y.rows.n y.rows.c):=AA.cell 19;have su:=hid hX;have mR:=hid AA;have hwl:=AA.lt;clear hX AA HX hB;rw[Ua] at wj;by_cases hlt:i < d.rows.length
  ·obtain⟨r,hr⟩:∃r,d.rows[i]?=some r:=⟨_,getElem?_eq_getElem hlt⟩;obtain⟨z,hz⟩:∃z,sls[i]?=some z:=⟨_,getElem?_eq_getElem Ta1⟩;have YK:eE.lies w S z.A z.n r:=tJ IG hr hz;have VQ:=Y9 hr;have P1:=hid (FW hr);rcases vx with h0 |⟨b,off,kR,jP,hc⟩
   ·have h0:sls=([]:List Sl):=h0;exact ZfI
   have hcell:wr.cell? ⟨b,off+i*1+0,none⟩=some (.slice z.A z.n z.c):=(su.out.below.cell (p:=⟨b,off+i*1+0,none⟩) (HS.out b jP)).trans (hc i z 0 _ hz rfl);simp only[Nat.mul_one,Nat.add_zero] at hcell;have HZR:=hid YK;have HNX:=hid VQ;have hap:=λ(v:Value) (hX:AY w S v wr (d.rows.take i).flatten) (ty:TypeId)=>kh 24 ty Tryz.underlying24 hX (c:=z.c) HZR.out HS.out (by have:=HNX.out;have:=HN.out;omega)
   have uQ:=hid hap;clear VQ;generalize oV:(d.rows.take i).flatten=acc at*;have Ub:=hid oV;clear oV;obtain⟨A3,c3,hv3⟩:=su.out.len;subst hv3;rw[kR] at wj;clear hr hz YK hc hap Ua IG jk;go_wp2_with (first
    |(at_builtin
      refine gH rfl (.tmp 16) (.tmp 21) 24 rfl rfl rfl (uQ.out _ su.out _) ?_
      rintro v' w' ⟨EJ,qA⟩
      have P2:=hid EJ
      have HB':=hid (su.out.far qA mR.out Tab)
      clear EJ qA))
   go_roundw;case rel=>exact⟨i+1,hlt,by go_num,by rw[P1.out];exact P2.out,HB'.out⟩
   case measure=>exact Zcu
  obtain rfl:i=d.rows.length:=by omega
  have HX1:=hid (show AY w S _ wr d.rows.flatten by have:=su.out;rw[take_length] at this;exact this);clear su IG vx;obtain⟨A3,c3,hv3⟩:=HX1.out.len;subst hv3;generalize acJ:d.rows.flatten=OO at*;have akt:=hid acJ;clear acJ;go_wp2_with fail;clear hi hlt wj jk Ua;go_loopw [3,5] (λ v iv wr=>∃(i:Nat),i<=d.aS.length/\iv=.int .i64 i/\AY w S v wr (OO++(d.aS.take i).map (λ x=>x.2))/\av wr w.heap.size 34 (bD y).toArray) (λ _ iv _=>d.aS.length - (intOf iv).toNat);case atStart=>exact⟨0,Nat.zero_le _,rfl,by rw[take_zero,map_nil,append_nil];exact HX1.out,mR.out⟩
  case round=>
   obtain⟨i,hi,rfl,hX,AA⟩:=hrel;clear HX1 mR;have Ua:=jg.out.aS.1;obtain⟨(zs:List (ByteArray×Ex)),vx,IG⟩:=jg.out.aS.2;have jk:(zs:List (ByteArray×Ex)).length=d.aS.length:=IG.len;have xl:wr.cell? ⟨w.heap.size,20,none⟩=some (.slice y.aS.A y.aS.n y.aS.c):=AA.cell 20;have su:=hid hX;have mR:=hid AA;have hwl:=AA.lt;clear hX AA;rw[Ua] at xl;have hls:d.aS.length<=1000000:=by have:=HN.out;omega
   by_cases hlt:i < d.aS.length
   ·obtain⟨r,hr⟩:∃r,d.aS[i]?=some r:=⟨_,getElem?_eq_getElem hlt⟩;obtain⟨z,hz⟩:∃z,zs[i]?=some z:=⟨_,getElem?_eq_getElem Ta1⟩;have YK:=(tJ IG hr hz).2;have P1:=hid (CX (λ x=>x.2) hr);rcases vx with h0 |⟨b,off,kR,jP,hc⟩
    ·have h0:zs=([]:List (ByteArray×Ex)):=h0;exact ZfI
    have hcell:=λ j u hu=>(su.out.below.cell (p:=⟨b,off+i*8+j,none⟩) (HS.out b jP)).trans (hc i z j u hz hu)
    have zz:(OO++(d.aS.take i).map (λ x=>x.2)).length<=OO.length+i:=by simp;omega
    obtain⟨zn,⟨YL,zv,tK,zw,zA,zl,zc⟩⟩:=z;have k0:=hcell 1 _ rfl;have k1:=hcell 2 _ rfl;have k2:=hcell 3 _ rfl;have k3:=hcell 4 _ rfl;have k4:=hcell 5 _ rfl;have k5:=hcell 6 _ rfl;have k6:=hcell 7 _ rfl;have HZR:=hid YK;have HAL:=hid zz;clear zz YK hcell hc hr hz;generalize oV:OO++(d.aS.take i).map (λ x=>x.2)=acc at*;have Ub:=hid oV;clear oV;obtain⟨A3,c3,hv3⟩:=su.out.len;subst hv3;have Lf:=su.out.later (aa wr (.cells (aT ⟨YL,zv,tK,zw,zA,zl,zc⟩).toArray 36));have uQ:=hid (λ(ty:TypeId)=>pJ 24 ty Tryz.underlying24 Lf (av.new wr 36 (aT ⟨YL,zv,tK,zw,zA,zl,zc⟩).toArray) HZR.out (by have:=HAL.out;have:=HN.out;omega));have HBN:=hid (mR.out.alloc (.cells (aT ⟨YL,zv,tK,zw,zA,zl,zc⟩).toArray 36));have qW:=hid Lf;rw[kR] at xl;clear kR Ua IG jk Lf;go_wp2_with (first
     |(at_builtin
       refine gH rfl (.tmp 30) (.tmp 37) 24 rfl rfl rfl (uQ.out _) ?_
       rintro v' w9 ⟨EJ,qA⟩
       have P2:=hid EJ
       have HB':=hid (qW.out.far qA HBN.out Tab)
       clear EJ qA))
    exact Zb1
   obtain rfl:i=d.aS.length:=by omega
   have YM:=su.out;rw[take_length] at YM;clear su;have zz:(OO++d.aS.map (λ x=>x.2)).length=OO.length+d.aS.length:=by simp
   have su:=hid YM;clear IG vx YM;obtain⟨A3,c3,hv3⟩:=su.out.len;subst hv3;generalize acK:OO++d.aS.map (λ x=>x.2)=aeZ at*;have akw:=hid acK;have Uc:=hid zz;have hww:=jg.out.aR;have uQ:=hid (λ(ty:TypeId)=>kh 24 ty Tryz.underlying24 su.out (c:=y.aR.c) hww HS.out (by have:=Uc.out;have:=HN.out;omega));have Yk:wr.cell? ⟨w.heap.size,21,none⟩=some (.slice y.aR.A y.aR.n y.aR.c):=mR.out.cell 21;clear acK zz hww;go_wp2_with (first
    |(at_builtin
      refine gH rfl (.tmp 39) (.tmp 41) 24 rfl rfl rfl (uQ.out _) ?_
      rintro v' w9 ⟨EJ,qA⟩
      have YN:=su.out.far qA mR.out Tab
      obtain⟨A4,c4,hv4⟩:=EJ.len
      subst hv4
      have YO:=hid (show(aeZ++d.aR).length=aeZ.length+d.aR.length by simp)
      generalize acL:aeZ++d.aR=OP at*
      have akx:=hid acL
      have P2:=hid EJ
      have apJ:=hid YN
      have q7:w9.cell? ⟨w.heap.size,7,none⟩=some (.slice y.query.items.A y.query.items.n y.query.items.c):=YN.cell 7
      have q8:w9.cell? ⟨w.heap.size,8,none⟩=some (.string y.query.aK):=YN.cell 8
      have q9:w9.cell? ⟨w.heap.size,9,none⟩=some (.bool y.query.only):=YN.cell 9
      have q10:w9.cell? ⟨w.heap.size,10,none⟩=some (.slice y.query.aR.A y.query.aR.n y.query.aR.c):=YN.cell 10
      have q11:w9.cell? ⟨w.heap.size,11,none⟩=some (.slice y.query.group.A y.query.group.n y.query.group.c):=YN.cell 11
      have q12:w9.cell? ⟨w.heap.size,12,none⟩=some (.slice y.query.having.A y.query.having.n y.query.having.c):=YN.cell 12
      have q13:w9.cell? ⟨w.heap.size,13,none⟩=some (.slice y.query.order.A y.query.order.n y.query.order.c):=YN.cell 13
      have q14:w9.cell? ⟨w.heap.size,14,none⟩=some (.slice y.query.aG.A y.query.aG.n y.query.aG.c):=YN.cell 14
      have wb:=YN.lt
      clear EJ qA YN acL))
   clear Yk uQ su;have HQ:=hid (av.new w9 28 (jX y.query).toArray);have HXQ:=hid (P2.out.later (aa w9 (.cells (jX y.query).toArray 28)));clear P2 apJ q7 q8 q9 q10 q11 q12 q13 q14 mR;unfold jX fF at HQ HXQ;generalize w9.alloc _=W9 at*;generalize w9.heap.size=q at*;clear wb;go_loopw [3,7] (λ v iv wr=>∃(i:Nat),i<=d.query.items.length/\iv=.int .i64 i/\AY w S v wr (OP++(d.query.items.take i).map (λ x=>x.1))/\av wr q 28 #[.slice y.query.items.A y.query.items.n y.query.items.c,.string y.query.aK,.bool y.query.only,.slice y.query.aR.A y.query.aR.n y.query.aR.c,.slice y.query.group.A y.query.group.n y.query.group.c,.slice y.query.having.A y.query.having.n y.query.having.c,.slice y.query.order.A y.query.order.n y.query.order.c,.slice y.query.aG.A y.query.aG.n y.query.aG.c]) (λ _ iv _=>d.query.items.length - (intOf iv).toNat);case atStart=>exact⟨0,Nat.zero_le _,rfl,by rw[take_zero,map_nil,append_nil];exact HXQ.out,HQ.out⟩
   case round=>
    obtain⟨i,hi,rfl,hX,AA⟩:=hrel;clear HXQ HQ;have Ua:=jg.out.query.items.1;obtain⟨(zs:List (Ex×ByteArray)),vx,IG⟩:=jg.out.query.items.2;have jk:(zs:List (Ex×ByteArray)).length=d.query.items.length:=IG.len;have xl:wr.cell? ⟨q,0,none⟩=some (.slice y.query.items.A y.query.items.n y.query.items.c):=AA.cell 0;have su:=hid hX;have mR:=hid AA;have hwl:=AA.lt;clear hX AA;rw[Ua] at xl;have hls:d.query.items.length<=1000000:=by have:=HN.out;omega
    by_cases hlt:i < d.query.items.length
    ·obtain⟨r,hr⟩:∃r,d.query.items[i]?=some r:=⟨_,getElem?_eq_getElem hlt⟩;obtain⟨z,hz⟩:∃z,zs[i]?=some z:=⟨_,getElem?_eq_getElem Ta1⟩;have YK:=(tJ IG hr hz).1;have P1:=hid (CX (λ x=>x.1) hr);rcases vx with h0 |⟨b,off,kR,jP,hc⟩
     ·have h0:zs=([]:List (Ex×ByteArray)):=h0;exact ZfI
     have hcell:=λ j u hu=>(su.out.below.cell (p:=⟨b,off+i*8+j,none⟩) (HS.out b jP)).trans (hc i z j u hz hu)
     have zz:(OP++(d.query.items.take i).map (λ x=>x.1)).length<=OP.length+i:=by simp;omega
     obtain⟨⟨YL,zv,tK,zw,zA,zl,zc⟩,zn⟩:=z;have k0:=hcell 0 _ rfl;have k1:=hcell 1 _ rfl;have k2:=hcell 2 _ rfl;have k3:=hcell 3 _ rfl;have k4:=hcell 4 _ rfl;have k5:=hcell 5 _ rfl;have k6:=hcell 6 _ rfl;simp only[Nat.add_zero] at k0;have HZR:=hid YK;have HAL:=hid zz;clear zz YK hcell hc hr hz;generalize oV:OP++(d.query.items.take i).map (λ x=>x.1)=acc at*;have Ub:=hid oV;clear oV;obtain⟨A3,c3,hv3⟩:=su.out.len;subst hv3;have Lf:=su.out.later (aa wr (.cells (aT ⟨YL,zv,tK,zw,zA,zl,zc⟩).toArray 36));have uQ:=hid (λ(ty:TypeId)=>pJ 24 ty Tryz.underlying24 Lf (av.new wr 36 (aT ⟨YL,zv,tK,zw,zA,zl,zc⟩).toArray) HZR.out (by have:=HAL.out;have:=HN.out;have:=Uc.out;have:=YO.out;omega));have HBN:=hid (mR.out.alloc (.cells (aT ⟨YL,zv,tK,zw,zA,zl,zc⟩).toArray 36));have qW:=hid Lf;rw[kR] at xl;clear kR Ua IG jk Lf;go_wp2_with (first
      |(at_builtin
        refine gH rfl (.tmp 52) (.tmp 59) 24 rfl rfl rfl (uQ.out _) ?_
        rintro v' w9 ⟨EJ,qA⟩
        have P2:=hid EJ
        have HB':=hid (qW.out.far qA HBN.out Tab)
        clear EJ qA))
     exact Zb1
    obtain rfl:i=d.query.items.length:=by omega
    have YM:=su.out;rw[take_length] at YM;clear su;have zz:(OP++d.query.items.map (λ x=>x.1)).length=OP.length+d.query.items.length:=by simp
    have su:=hid YM;clear IG vx YM;obtain⟨A3,c3,hv3⟩:=su.out.len;subst hv3;have Z0:=hid zz;clear zz;generalize acM:OP++d.query.items.map (λ x=>x.1)=Ud at*;have aky:=hid acM;clear acM;have x3:=mR.out.cell 3;have x4:=mR.out.cell 4;have x5:=mR.out.cell 5;simp only[Uaa] at x3 x4 x5;go_upto_region 16 with fail;clear hi hlt xl Ua hls;have hwa:=jg.out.query.aR;have hga:=jg.out.query.group;have hha:=jg.out.query.having;have HWA:=hid hwa;have HGA:=hid hga;have HHA:=hid hha;clear hwa hga hha x3 x4 x5;refine Le (P:=Tryz.prog) (J:=exJ w S q (#[.slice y.query.items.A y.query.items.n y.query.items.c,.string y.query.aK,.bool y.query.only,.slice y.query.aR.A y.query.aR.n y.query.aR.c,.slice y.query.group.A y.query.group.n y.query.group.c,.slice y.query.having.A y.query.having.n y.query.having.c,.slice y.query.order.A y.query.order.n y.query.order.c,.slice y.query.aG.A y.query.aG.n y.query.aG.c]) (.slice A3 Ud.length c3) Ud d.query.aR d.query.group d.query.having) (q:=6) (s:=3) (d0:=61) (d1:=62) (d2:=63) (d3:=64) (d4:=65) (d5:=66) (d6:=67) (d7:=68) (d8:=69) (d9:=70) (pq:=.pointer (some ⟨q,0,none⟩)) (v0:=.slice A3 Ud.length c3) (p1:=.pointer (some ⟨q,3,none⟩)) (p2:=.pointer (some ⟨q,4,none⟩)) (p3:=.pointer (some ⟨q,5,none⟩)) (s1:=.slice y.query.aR.A y.query.aR.n y.query.aR.c) (s2:=.slice y.query.group.A y.query.group.n y.query.group.c) (s3:=.slice y.query.having.A y.query.having.n y.query.having.c) (A1:=⟨q,3,none⟩) (A2:=⟨q,4,none⟩) (A3:=⟨q,5,none⟩) 24 (YJ _ _ _ _ _ _ _ _ _) ⟨su.out,mR.out⟩ Tac Tac Tac Tac Tac rfl rfl ?_ ?_ ?_ ?_ (TZ _ _ _ _ _ _ _ _ _ rfl rfl rfl) ?_ ?_ ?_ ?_ ?_ ?_ ?_ ?_ ?_ ?_
    ·exact ZcS
    ·exact ZcS
    ·exact ZcS
    ·exact ZcS
    ·exact ZcY
    ·exact ZcY
    ·exact ZcY
    ·exact ZgH
    ·exact ZgH
    ·exact ZgH
    ·rintro w5 ⟨hx,hq⟩;obtain⟨v',w',hrun,EJ,qA⟩:=kh 24 24 Tryz.underlying24 hx (c:=y.query.aR.c) HWA.out HS.out (by have:=Z0.out;have:=YO.out;have:=Uc.out;have:=HN.out;omega);exact Zf1
    ·rintro a w5 ⟨hx,hq⟩;obtain⟨v',w',hrun,EJ,qA⟩:=kh 24 24 Tryz.underlying24 hx (c:=y.query.group.c) HGA.out HS.out TaD;exact Zf1
    ·rintro a b w5 ⟨hx,hq⟩;obtain⟨v',w',hrun,EJ,qA⟩:=kh 24 24 Tryz.underlying24 hx (c:=y.query.having.c) HHA.out HS.out TaD;exact Zf1
    rintro va vb vc W7 ⟨hX7,hB7⟩;have HX7:=hid hX7;have Wf:=hid hB7;clear hX7 hB7 su mR HWA HGA HHA;have apL:=hid (show(Ud++d.query.aR++d.query.group++d.query.having).length=Ud.length+d.query.aR.length+d.query.group.length+d.query.having.length by simp only[length_append]);generalize acO:Ud++d.query.aR++d.query.group++d.query.having=OQ at*;have akz:=hid acO;clear acO;obtain⟨A8,c8,hv8⟩:=HX7.out.len;subst hv8;open zgT in exact Zep
theorem Lg (w:World)(d:St)(y:fl)(S:Nat->Prop)(hS:∀b,S b->b < w.heap.size)(h:d.at_ w S y)(hlen:d.exprs.length<=100000)(hr0:d.rows.length<=64):
 Calls Tryz.prog 17 #[ji y] w λ e w'=>∃sl:Sl,e=.returned (fF sl)/\sl.n=d.exprs.length/\eE.sl w' (eC 0 w') sl d.exprs/\Below w.heap.size w w':=Ao w d y S hS h Taa Taa
def mE (s:ByteArray)(w:World)(e:Ending)(w':World):Prop:=
 match lz s.data.toList with
 | .error (p,x)=>e=.returned (.tuple #[ji {},.int .i64 p,.int .i64 x])/\Below w.heap.size w w'
 | .ok d=>∃y:fl,e=.returned (.tuple #[ji y,.int .i64 0,.int .i64 0])/\d.at_ w' (eC w.heap.size w') y/\Below w.heap.size w w'
variable{x:Nat}
theorem Ue{r:List UInt8} (h:dH r=.error x):x=2\/x=30:=by
 match r with
 | []=>injection h with h;exact .inr h.symm
 | c::r=>
   simp only[dH] at h;split at h
   ·split at h
    ·cases h
    ·injection h with h;exact .inl h.symm
   split at h
   ·exact ZcD
   split at h
   ·exact ZcD
   ·exact ZcD
theorem FX (n:Nat):∀(f:Nat) (r:List UInt8) (p x:Nat),rf n f r=.error (p,x)->x=2\/x=30
 | 0,r,p,x,h=>by injection h with h;injection h with h1 h2;exact .inr h2.symm
 | f+1,r,p,x,h=>by
   simp only[rf] at h;split at h
   ·cases h
   ·split at h
    ·rename_i e he;injection h with h;injection h with h1 h2;subst h2;exact Ue he
    ·split at h
     ·rename_i y hy;injection h with h;subst h;exact FX n f _ _ _ hy
     ·cases h
variable{s:List UInt8}
theorem Uf{p:Nat}(h:lY s=.error (p,x)):x=2\/x=30:=by
 unfold lY at h;split at h
 ·injection h with h;injection h with h1 h2;exact .inl h2.symm
 ·exact FX _ _ _ _ _ h
variable{gl:Nat}
theorem bp.start{c:Nat} {l:List np}(wy:gl < w.heap.size)(hc:∀k t,l[k]?=some t->w.cell? ⟨gl,k*4,none⟩=some (.int .u8 t.w.k)/\w.cell? ⟨gl,k*4+1,none⟩=some (.string ⟨t.w.s.toArray⟩)/\w.cell? ⟨gl,k*4+2,none⟩=some (.int .i64 t.w.n)/\w.cell? ⟨gl,k*4+3,none⟩=some (.int .i64 t.p))
  (he:je (l.map (·.w))) (hlen:l.length<=4097) (hwd:∀t∈l,YH t.w):
  (⟨w.heap.size,gl,c,l⟩:bp).at (w.alloc (.cells #[.slice (some ⟨gl,0,none⟩) l.length c,.int .i64 0,.int .i64 (-1),.bool false] 125)) (.good (l.map (·.w))) false:=by
 have hb:=av.new w 125 #[.slice (some ⟨gl,0,none⟩) l.length c,.int .i64 0,.int .i64 (-1),.bool false];refine⟨?_,wy,?_,⟨suffix_refl _,he⟩,?_,λ t ht=>(hwd t ht).1⟩
 ·have e:(⟨w.heap.size,gl,c,l⟩:bp).cells (.good (l.map (·.w))) false= #[.slice (some ⟨gl,0,none⟩) l.length c,.int .i64 0,.int .i64 (-1),.bool false]:=by simp[bp.cells,bp.n,bp.bad,dX.left]
  rw[e];exact hb
 ·intro k t hk;have c:=λ o=>World.cell?_alloc_lt w (.cells #[.slice (some ⟨gl,0,none⟩) l.length c,.int .i64 0,.int .i64 (-1),.bool false] 125) ⟨gl,o,none⟩ wy
  obtain⟨h1,h2,h3,h4⟩:=hc k t hk;exact Zdk
 ·show l.length<=5000;omega
theorem Lh(w:World)(o:Obj)(cs:Array Value):∀b,eC B w b->(∀i,((w.alloc o).setRow w.heap.size cs).cell? ⟨b,i,none⟩=w.cell? ⟨b,i,none⟩)/\eC B ((w.alloc o).setRow w.heap.size cs) b:=λ b hb=>
 ⟨cell_of_heap ((setRow_other _ w.heap.size b cs (by have:=hb.2;omega)).trans (Below.heap_alloc w o b hb.2)),hb.1,by rw[size_setRow];have:=hb.2;simp;omega⟩
def Rv (w:World)(y z:Ex):Prop:=∀W,Below w.heap.size w W->Calls Tryz.prog 16 #[dN y,dN z] W λ e w'=>e=.returned (.bool true)/\Below W.heap.size W w'
def agt (w:World)(a b:Sl):Prop:=∀W,Below w.heap.size w W->Calls Tryz.prog 31 #[.slice a.A a.n a.c,.slice b.A b.n b.c] W λ e w'=>e=.returned (.bool true)/\Below W.heap.size W w'
theorem PS (w:World)(y z:Ex)(hop:z.op=y.op)(hv:z.v=y.v)(hn:z.name=y.name)(hw:z.width=y.width)(hL:agt w ⟨y.A,y.n,y.c⟩ ⟨z.A,z.n,z.c⟩):Rv w y z:=by
 intro W hW;obtain⟨op2,v2,alV,arc,A,n,c⟩:=y;obtain⟨op,v,name,width,A2,n2,c2⟩:=z;simp only at hop hv hn hw;subst hop hv hn hw;have HL:=hid hL;clear hL;unfold dN aT;obtain⟨vk,vn,vs⟩:=v;go_enter Tryz.func16,Tryz.ntmps16;have hX:=(av.new W 36 #[.int .u8 op,.int .u8 vk,.int .i64 vn,.string vs,.string name,.int .i64 width,.slice A n c]).alloc (.cells #[.int .u8 op,.int .u8 vk,.int .i64 vn,.string vs,.string name,.int .i64 width,.slice A2 n2 c2] 36);have hZ:=av.new (W.alloc (.cells #[.int .u8 op,.int .u8 vk,.int .i64 vn,.string vs,.string name,.int .i64 width,.slice A n c] 36)) 36 #[.int .u8 op,.int .u8 vk,.int .i64 vn,.string vs,.string name,.int .i64 width,.slice A2 n2 c2];rw[World.size_alloc] at hZ;have hB:=af.then (aa W (.cells #[.int .u8 op,.int .u8 vk,.int .i64 vn,.string vs,.string name,.int .i64 width,.slice A n c] 36)) (aa _ (.cells #[.int .u8 op,.int .u8 vk,.int .i64 vn,.string vs,.string name,.int .i64 width,.slice A2 n2 c2] 36));have x0:=hX.cell 0;have x1:=hX.cell 1;have x2:=hX.cell 2;have x3:=hX.cell 3;have x4:=hX.cell 4;have x5:=hX.cell 5;have x6:=hX.cell 6;simp only[Uaa] at x0 x1 x2 x3 x4 x5 x6;have z0:=hZ.cell 0;have z1:=hZ.cell 1;have z2:=hZ.cell 2;have z3:=hZ.cell 3;have z4:=hZ.cell 4;have z5:=hZ.cell 5;have z6:=hZ.cell 6;simp only[Uaa] at z0 z1 z2 z3 z4 z5 z6;have e1:(op==op)=true:=by simp
 have e2:(vk==vk)=true:=by simp
 have e3:(vn==vn)=true:=by simp
 have e4:(vs.toList==vs.toList)=true:=by simp
 have e5:(name.toList==name.toList)=true:=by simp
 have e6:(width==width)=true:=by simp
 go_wp2_with fail;refine(HL.out _ (hW.trans (hB.mono hW.size))).mono ?_;rintro e w1 ⟨rfl,b1⟩;replace hB:=af.then hB b1;clear b1 x0 x1 x2 x3 x4 x5 x6 z0 z1 z2 z3 z4 z5 z6;go_wp2_with fail;go_ret;exact⟨rfl,hB⟩
theorem zim.KcI(h:p:=by have hb1:=af.then iE vw;clear CM x9 k0 k1 k2 k3 k4 k5 k6 m0 m1 m2 m3 m4 m5 m6 Bc vw;exact ZbW):p:=h
theorem zgx.KbV(h:p:=by open zim in exact Zgx):p:=h
theorem zfb.Kbm(h:p:=by
 have hcell:=λ j v hv=>(hwr.cell (p:=⟨b,off+i*7+j,none⟩) (hS b jP)).trans (hc i x j v hx hv)
 have bY:=λ j v hv=>(hwr.cell (p:=⟨b2,fG+i*7+j,none⟩) (uZ b2 qO)).trans (hc2 i u j v hu hv)
 have k0:=λ q:Ext wr.heap.size wr=>(q.h.cell (p:=⟨b,off+i*7,none⟩) nj).trans (hcell 0 (.int .u8 x.op) rfl)
 have k1:=λ q:Ext wr.heap.size wr=>(q.h.cell (p:=⟨b,off+i*7+1,none⟩) nj).trans (hcell 1 (.int .u8 x.v.k) rfl)
 have k2:=λ q:Ext wr.heap.size wr=>(q.h.cell (p:=⟨b,off+i*7+2,none⟩) nj).trans (hcell 2 (.int .i64 x.v.n) rfl)
 have k3:=λ q:Ext wr.heap.size wr=>(q.h.cell (p:=⟨b,off+i*7+3,none⟩) nj).trans (hcell 3 (.string x.v.s) rfl)
 have k4:=λ q:Ext wr.heap.size wr=>(q.h.cell (p:=⟨b,off+i*7+4,none⟩) nj).trans (hcell 4 (.string x.name) rfl)
 have k5:=λ q:Ext wr.heap.size wr=>(q.h.cell (p:=⟨b,off+i*7+5,none⟩) nj).trans (hcell 5 (.int .i64 x.width) rfl)
 have k6:=λ q:Ext wr.heap.size wr=>(q.h.cell (p:=⟨b,off+i*7+6,none⟩) nj).trans (hcell 6 (.slice x.A x.n x.c) rfl)
 have m0:=λ q:Ext wr.heap.size wr=>(q.h.cell (p:=⟨b2,fG+i*7,none⟩) il).trans (bY 0 (.int .u8 u.op) rfl)
 have m1:=λ q:Ext wr.heap.size wr=>(q.h.cell (p:=⟨b2,fG+i*7+1,none⟩) il).trans (bY 1 (.int .u8 u.v.k) rfl)
 have m2:=λ q:Ext wr.heap.size wr=>(q.h.cell (p:=⟨b2,fG+i*7+2,none⟩) il).trans (bY 2 (.int .i64 u.v.n) rfl)
 have m3:=λ q:Ext wr.heap.size wr=>(q.h.cell (p:=⟨b2,fG+i*7+3,none⟩) il).trans (bY 3 (.string u.v.s) rfl)
 have m4:=λ q:Ext wr.heap.size wr=>(q.h.cell (p:=⟨b2,fG+i*7+4,none⟩) il).trans (bY 4 (.string u.name) rfl)
 have m5:=λ q:Ext wr.heap.size wr=>(q.h.cell (p:=⟨b2,fG+i*7+5,none⟩) il).trans (bY 5 (.int .i64 u.width) rfl)
 have m6:=λ q:Ext wr.heap.size wr=>(q.h.cell (p:=⟨b2,fG+i*7+6,none⟩) il).trans (bY 6 (.slice u.A u.n u.c) rfl)
 have Bc:=λ q:Ext wr.heap.size wr=>hD q.w (hwr.trans (q.h.mono hwr.size))
 unfold dN aT at Bc;clear hcell bY hc hc2 hx hu hwr hD;subst kR zQ;go_upto_region 10 with fail;refine ep 10 wr.heap.size wr (Below.refl _ _) Tac Tac Tac Tac ?_;open zgx in exact Zd8):p:=h
theorem Gu (w:World)(A A2:Option Addr)(c c2:Nat)(ys zs:List Ex)(S S2:Nat->Prop)(hS:∀b,S b->b < w.heap.size)(uZ:∀b,S2 b->b < w.heap.size)(hlen:zs.length=ys.length)(hA:RL aT 7 w S A ys)(ED:RL aT 7 w S2 A2 zs)(h:∀(i:Nat) y z,ys[i]?=some y->zs[i]?=some z->Rv w y z)(hl:ys.length<=1000000000):agt w ⟨A,ys.length,c⟩ ⟨A2,zs.length,c2⟩:=by
 intro W hW;have HD:=hid h;have HA:=hid hA;have gP:=hid ED;clear h hA ED;obtain⟨n,hn⟩:∃n,n=ys.length:=⟨_,rfl⟩;rw[<- hn] at hlen hl ⊢;rw[hlen];have HN:=hid hn;have AJ:=hid hlen;clear hn hlen;show Calls Tryz.prog 31 #[.slice A n c,.slice A2 n c2] W _;have t0:(n != n)=false:=by simp
 have t1:((n:Int) !=(n:Int))=false:=by simp
 go_enter Tryz.func31,Tryz.ntmps31;go_wp2_with fail;clear t0 t1;have HW:=hid hW;go_loopw [5] (λ iv wr=>∃i:Nat,i<=n/\iv=.int .i64 i/\Below W.heap.size W wr) (λ iv _=>n - (intOf iv).toNat);case atStart=>exact⟨0,Nat.zero_le _,rfl,Below.refl _ _⟩
 case round=>
  obtain⟨i,hi,rfl,iE⟩:=hrel;by_cases hlt:i < n
  ·obtain⟨x,hx⟩:∃x,ys[i]?=some x:=⟨_,getElem?_eq_getElem TaZ⟩;obtain⟨u,hu⟩:∃u,zs[i]?=some u:=⟨_,getElem?_eq_getElem (by have:=AJ.out;omega)⟩;have hD:=HD.out i x u hx hu;have hwr:Below w.heap.size w wr:=hW.trans (iE.mono hW.size);rcases HA.out with h0 |⟨b,off,kR,jP,hc⟩
   ·exact ZgY
   rcases gP.out with h0 |⟨b2,fG,zQ,qO,hc2⟩
   ·exact ZgZ
   open zfb in exact Zcp
  ·obtain rfl:i=n:=by omega
   go_wp2_with fail;go_ret;exact⟨rfl,iE⟩
mutual
theorem Tr.BG {w:World} {S S2:Nat->Prop}(hS:∀b,S b->b < w.heap.size)(uZ:∀b,S2 b->b < w.heap.size):∀(t:Tr) (y z:Ex),t.at_ w S y->t.at_ w S2 z->t.thin->Rv w y z
 | .mk op v name width args,y,z,h,h2,ht=>by unfold Tr.at_ at h h2;obtain⟨a1,a2,a3,a4,hn,ys,hr,ha⟩:=h;obtain⟨c1,c2,c3,c4,TC,zs,hr2,ha2⟩:=h2;unfold Tr.thin at ht;have hl:=Tr.eZ.length ha;have hl2:=Tr.eZ.length ha2;refine PS w y z (by rw[c1,a1]) (by rw[c2,a2]) (by rw[c3,a3]) (by rw[c4,a4]) ?_;have:=Gu w y.A z.A y.c z.c ys zs S S2 hS uZ Taa hr hr2 (Tr.DM hS uZ args ys zs ha ha2 ht.2) TaN;rw[hn,TC,<- hl];rw[hl2,<- hl] at this;exact this
theorem Tr.DM {w:World} {S S2:Nat->Prop}(hS:∀b,S b->b < w.heap.size)(uZ:∀b,S2 b->b < w.heap.size):∀(ts:List Tr) (ys zs:List Ex),Tr.eZ w S ts ys->Tr.eZ w S2 ts zs->Tr.ix ts->∀(i:Nat) y z,ys[i]?=some y->zs[i]?=some z->Rv w y z
 | [],ys,zs,h,h2,_,i,y,z,hy,hz=>by unfold Tr.eZ at h;subst h;simp at hy
 | t::ts,ys,zs,h,h2,ht,i,y,z,hy,hz=>by
   unfold Tr.eZ at h h2;obtain⟨y0,ys',rfl,h1,h3⟩:=h;obtain⟨z0,zs',rfl,k1,k3⟩:=h2;unfold Tr.ix at ht
   match i,hy,hz with
   | 0,hy,hz=>simp at hy hz;subst hy hz;exact Tr.BG hS uZ t _ _ h1 k1 ht.1
   | i+1,hy,hz=>exact Tr.DM hS uZ ts ys' zs' h3 k3 ht.2 i y z (by simpa using hy) (by simpa using hz)
end
variable{S2:Nat->Prop}{ts:List Tr}
theorem DN(hS:∀b,S b->b < w.heap.size)(uZ:∀b,S2 b->b < w.heap.size)  {a b:Sl}(h:eE.sl w S a ts)(h2:eE.sl w S2 b ts)(ht:Tr.ix ts)(hl:ts.length<=1000000000):agt w a b:=by obtain⟨hn,ys,hr,ha⟩:=h;obtain⟨TC,zs,hr2,ha2⟩:=h2;have ha:=ru.1 ha;have ha2:=ru.1 ha2;have l1:=Tr.eZ.length ha;have l2:=Tr.eZ.length ha2;obtain⟨aA,an,ac⟩:=a;obtain⟨bA,bn,bc⟩:=b;have:=Gu w aA bA ac bc ys zs S S2 hS uZ Taa hr hr2 (Tr.DM hS uZ ts ys zs ha ha2 ht) Taa;simp only at hn TC;rw[hn,TC,<- l1];rw[l2,<- l1] at this;exact this
end Go.Proofs.YtehhdlgjfdnafaaGreatDoor
